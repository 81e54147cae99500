/-
  NARROWER THAN 'FOR EVERY INPUT', by the rows' own cells (each row's printed sentence says how): FnExactFoldBranch: laid · FnExactRootOf: laid · FnExactHeadRoot: laid · FnExactBranchOf: laid · FnOneLeaf: laid · FnExactSigText: laid · FnBranches: laid · FnHeads: laid.
  DERIVED. THE GIVEN ROWS OF THIS SEAT. 8 by the template 'for every input the law returns true; each argument reads behind the call as it read before'; 0 by the template 'total and deterministic' (their statements: YtmiiknkfhiecgaaDoorTotals.lean).
  GIVEN WITH THE SEED: the statements are not yours to turn. If you find one false, say at which input.
  Laid BY PROGRAM, IN A SANDBOX (cutbox-rows.mjs): the forced cells as the released guide's own fill.sh prints them over the translation 18cad55f0ee5992a… (all of the seat's roots in one cut). By AI agents, Wed Nov 11 2026. No macro, syntax, notation, axiom, sorry.
-/
import Derived.Test.YtmiiknkfhiecgaaDoorChecked
import GoSem.Claim
import GoSem.ClaimJoined
import GoSem.ClaimMapViews
import Derived.JoinedTies
import Derived.KernelRfl
namespace Go.Proofs.YtmiiknkfhiecgaaDoor
/- THE CELL 'sum', in the pinned program and in every row, IS THE sha256 OF THE DUMP (.gsa) THAT YtmiiknkfhiecgaaDoorProg.lean LOADS. Nothing in Lean hashes anything: it is a label: what it is worth is what the hold of that sum in a sandbox is worth. -/
noncomputable def Tryd.pinned : Pinned := { name := "ytmiiknkfhiecgaadoor", sum := "18cad55f0ee5992a985aa7295976d42eed98ff0d0eadcd50bd387a55a4f84e94", checked := Tryd.checked }
namespace Rows
def none {H : Type} : Left H := { results := [], args := [] }

/- WHAT THE LISTED PACKAGE-LEVEL VARIABLES READ AS WHEN THE CALL BEGINS. Each datum BY PROGRAM (the guide's laid-datum.mjs) off the statement by which the dump's own 'gosem.cut.vars' lays the variable. In a bare row this is a premise. The card (YtmiiknkfhiecgaaDoorCards.lean) ties it to the program's text. -/
def laid_loop_example_g00321_impl_roundConstants {H : Type} : DataW H := .agg [.lit (.int .u64 1), .lit (.int .u64 32898), .lit (.int .u64 9223372036854808714), .lit (.int .u64 9223372039002292224), .lit (.int .u64 32907), .lit (.int .u64 2147483649), .lit (.int .u64 9223372039002292353), .lit (.int .u64 9223372036854808585), .lit (.int .u64 138), .lit (.int .u64 136), .lit (.int .u64 2147516425), .lit (.int .u64 2147483658), .lit (.int .u64 2147516555), .lit (.int .u64 9223372036854775947), .lit (.int .u64 9223372036854808713), .lit (.int .u64 9223372036854808579), .lit (.int .u64 9223372036854808578), .lit (.int .u64 9223372036854775936), .lit (.int .u64 32778), .lit (.int .u64 9223372039002259466), .lit (.int .u64 9223372039002292353), .lit (.int .u64 9223372036854808704), .lit (.int .u64 2147483649), .lit (.int .u64 9223372039002292232)]
def laid_loop_example_g00321_impl_turns {H : Type} : DataW H := .agg [.lit (.int .i64 0), .lit (.int .i64 1), .lit (.int .i64 62), .lit (.int .i64 28), .lit (.int .i64 27), .lit (.int .i64 36), .lit (.int .i64 44), .lit (.int .i64 6), .lit (.int .i64 55), .lit (.int .i64 20), .lit (.int .i64 3), .lit (.int .i64 10), .lit (.int .i64 43), .lit (.int .i64 25), .lit (.int .i64 39), .lit (.int .i64 41), .lit (.int .i64 45), .lit (.int .i64 15), .lit (.int .i64 21), .lit (.int .i64 8), .lit (.int .i64 18), .lit (.int .i64 2), .lit (.int .i64 61), .lit (.int .i64 56), .lit (.int .i64 14)]

/-- 'laws.FnExactFoldBranch': WHATEVER THE INPUT: true; the input reads as it did. -/
def fnExactFoldBranchSpec : ChangeSpec := { name := "fnExactFoldBranch", vars := ["loop.example/g00321/impl.turns", "loop.example/g00321/impl.roundConstants"], fn := fun _ => fun
  | [d1, d2, d3, g1, g2] => { results := [.lit (.bool true)], args := [d1, d2, d3], vars := [g1, g2] }
  | _ => none }
def fnExactFoldBranchRow : OpenClaim := { program := "ytmiiknkfhiecgaadoor", sum := "18cad55f0ee5992a985aa7295976d42eed98ff0d0eadcd50bd387a55a4f84e94", func := "loop.example/g00321/laws.FnExactFoldBranch", spec := "fnExactFoldBranch", inPlace := ["internal/abi.NoEscape", "internal/bytealg.MakeNoZero"], named := ["loop.example/g00321/impl.turns", "loop.example/g00321/impl.roundConstants"], apart := false, laid := [("loop.example/g00321/impl.roundConstants", laid_loop_example_g00321_impl_roundConstants), ("loop.example/g00321/impl.turns", laid_loop_example_g00321_impl_turns)] }
def FnExactFoldBranchSaid : Prop := fnExactFoldBranchRow.holds Tryd.pinned (OpenSpec.ofChange fnExactFoldBranchSpec)

/-- ITS FALSE NEIGHBOUR: 'it returns false'. Refute it at one input. -/
def fnExactFoldBranchWrong : ChangeSpec := { name := "fnExactFoldBranch", vars := ["loop.example/g00321/impl.turns", "loop.example/g00321/impl.roundConstants"], fn := fun _ => fun
  | [d1, d2, d3, g1, g2] => { results := [.lit (.bool false)], args := [d1, d2, d3], vars := [g1, g2] }
  | _ => none }
def FnExactFoldBranchWrongFalsely : Prop := fnExactFoldBranchRow.holds Tryd.pinned (OpenSpec.ofChange fnExactFoldBranchWrong)

/-- 'laws.FnExactRootOf': WHATEVER THE INPUT: true; the input reads as it did. -/
def fnExactRootOfSpec : ChangeSpec := { name := "fnExactRootOf", vars := ["loop.example/g00321/impl.turns", "loop.example/g00321/impl.roundConstants"], fn := fun _ => fun
  | [d, g1, g2] => { results := [.lit (.bool true)], args := [d], vars := [g1, g2] }
  | _ => none }
def fnExactRootOfRow : OpenClaim := { program := "ytmiiknkfhiecgaadoor", sum := "18cad55f0ee5992a985aa7295976d42eed98ff0d0eadcd50bd387a55a4f84e94", func := "loop.example/g00321/laws.FnExactRootOf", spec := "fnExactRootOf", inPlace := ["internal/abi.NoEscape", "internal/bytealg.MakeNoZero"], named := ["loop.example/g00321/impl.turns", "loop.example/g00321/impl.roundConstants"], apart := false, laid := [("loop.example/g00321/impl.roundConstants", laid_loop_example_g00321_impl_roundConstants), ("loop.example/g00321/impl.turns", laid_loop_example_g00321_impl_turns)] }
def FnExactRootOfSaid : Prop := fnExactRootOfRow.holds Tryd.pinned (OpenSpec.ofChange fnExactRootOfSpec)

/-- ITS FALSE NEIGHBOUR: 'it returns false'. Refute it at one input. -/
def fnExactRootOfWrong : ChangeSpec := { name := "fnExactRootOf", vars := ["loop.example/g00321/impl.turns", "loop.example/g00321/impl.roundConstants"], fn := fun _ => fun
  | [d, g1, g2] => { results := [.lit (.bool false)], args := [d], vars := [g1, g2] }
  | _ => none }
def FnExactRootOfWrongFalsely : Prop := fnExactRootOfRow.holds Tryd.pinned (OpenSpec.ofChange fnExactRootOfWrong)

/-- 'laws.FnExactHeadRoot': WHATEVER THE INPUT: true; the input reads as it did. -/
def fnExactHeadRootSpec : ChangeSpec := { name := "fnExactHeadRoot", vars := ["loop.example/g00321/impl.turns", "loop.example/g00321/impl.roundConstants"], fn := fun _ => fun
  | [d, g1, g2] => { results := [.lit (.bool true)], args := [d], vars := [g1, g2] }
  | _ => none }
def fnExactHeadRootRow : OpenClaim := { program := "ytmiiknkfhiecgaadoor", sum := "18cad55f0ee5992a985aa7295976d42eed98ff0d0eadcd50bd387a55a4f84e94", func := "loop.example/g00321/laws.FnExactHeadRoot", spec := "fnExactHeadRoot", inPlace := ["internal/abi.NoEscape", "internal/bytealg.MakeNoZero"], named := ["loop.example/g00321/impl.turns", "loop.example/g00321/impl.roundConstants"], apart := false, laid := [("loop.example/g00321/impl.roundConstants", laid_loop_example_g00321_impl_roundConstants), ("loop.example/g00321/impl.turns", laid_loop_example_g00321_impl_turns)] }
def FnExactHeadRootSaid : Prop := fnExactHeadRootRow.holds Tryd.pinned (OpenSpec.ofChange fnExactHeadRootSpec)

/-- ITS FALSE NEIGHBOUR: 'it returns false'. Refute it at one input. -/
def fnExactHeadRootWrong : ChangeSpec := { name := "fnExactHeadRoot", vars := ["loop.example/g00321/impl.turns", "loop.example/g00321/impl.roundConstants"], fn := fun _ => fun
  | [d, g1, g2] => { results := [.lit (.bool false)], args := [d], vars := [g1, g2] }
  | _ => none }
def FnExactHeadRootWrongFalsely : Prop := fnExactHeadRootRow.holds Tryd.pinned (OpenSpec.ofChange fnExactHeadRootWrong)

/-- 'laws.FnExactBranchOf': WHATEVER THE INPUT: true; the input reads as it did. -/
def fnExactBranchOfSpec : ChangeSpec := { name := "fnExactBranchOf", vars := ["loop.example/g00321/impl.turns", "loop.example/g00321/impl.roundConstants"], fn := fun _ => fun
  | [d1, d2, g1, g2] => { results := [.lit (.bool true)], args := [d1, d2], vars := [g1, g2] }
  | _ => none }
def fnExactBranchOfRow : OpenClaim := { program := "ytmiiknkfhiecgaadoor", sum := "18cad55f0ee5992a985aa7295976d42eed98ff0d0eadcd50bd387a55a4f84e94", func := "loop.example/g00321/laws.FnExactBranchOf", spec := "fnExactBranchOf", inPlace := ["internal/abi.NoEscape", "internal/bytealg.MakeNoZero"], named := ["loop.example/g00321/impl.turns", "loop.example/g00321/impl.roundConstants"], apart := false, laid := [("loop.example/g00321/impl.roundConstants", laid_loop_example_g00321_impl_roundConstants), ("loop.example/g00321/impl.turns", laid_loop_example_g00321_impl_turns)] }
def FnExactBranchOfSaid : Prop := fnExactBranchOfRow.holds Tryd.pinned (OpenSpec.ofChange fnExactBranchOfSpec)

/-- ITS FALSE NEIGHBOUR: 'it returns false'. Refute it at one input. -/
def fnExactBranchOfWrong : ChangeSpec := { name := "fnExactBranchOf", vars := ["loop.example/g00321/impl.turns", "loop.example/g00321/impl.roundConstants"], fn := fun _ => fun
  | [d1, d2, g1, g2] => { results := [.lit (.bool false)], args := [d1, d2], vars := [g1, g2] }
  | _ => none }
def FnExactBranchOfWrongFalsely : Prop := fnExactBranchOfRow.holds Tryd.pinned (OpenSpec.ofChange fnExactBranchOfWrong)

/-- 'laws.FnOneLeaf': WHATEVER THE INPUT: true; the input reads as it did. -/
def fnOneLeafSpec : ChangeSpec := { name := "fnOneLeaf", vars := ["loop.example/g00321/impl.turns", "loop.example/g00321/impl.roundConstants"], fn := fun _ => fun
  | [d, g1, g2] => { results := [.lit (.bool true)], args := [d], vars := [g1, g2] }
  | _ => none }
def fnOneLeafRow : OpenClaim := { program := "ytmiiknkfhiecgaadoor", sum := "18cad55f0ee5992a985aa7295976d42eed98ff0d0eadcd50bd387a55a4f84e94", func := "loop.example/g00321/laws.FnOneLeaf", spec := "fnOneLeaf", inPlace := ["internal/abi.NoEscape", "internal/bytealg.MakeNoZero"], named := ["loop.example/g00321/impl.turns", "loop.example/g00321/impl.roundConstants"], apart := false, laid := [("loop.example/g00321/impl.roundConstants", laid_loop_example_g00321_impl_roundConstants), ("loop.example/g00321/impl.turns", laid_loop_example_g00321_impl_turns)] }
def FnOneLeafSaid : Prop := fnOneLeafRow.holds Tryd.pinned (OpenSpec.ofChange fnOneLeafSpec)

/-- ITS FALSE NEIGHBOUR: 'it returns false'. Refute it at one input. -/
def fnOneLeafWrong : ChangeSpec := { name := "fnOneLeaf", vars := ["loop.example/g00321/impl.turns", "loop.example/g00321/impl.roundConstants"], fn := fun _ => fun
  | [d, g1, g2] => { results := [.lit (.bool false)], args := [d], vars := [g1, g2] }
  | _ => none }
def FnOneLeafWrongFalsely : Prop := fnOneLeafRow.holds Tryd.pinned (OpenSpec.ofChange fnOneLeafWrong)

/-- 'laws.FnExactSigText': WHATEVER THE INPUT: true; the input reads as it did. -/
def fnExactSigTextSpec : ChangeSpec := { name := "fnExactSigText", vars := ["loop.example/g00321/impl.turns", "loop.example/g00321/impl.roundConstants"], fn := fun _ => fun
  | [d1, d2, g1, g2] => { results := [.lit (.bool true)], args := [d1, d2], vars := [g1, g2] }
  | _ => none }
def fnExactSigTextRow : OpenClaim := { program := "ytmiiknkfhiecgaadoor", sum := "18cad55f0ee5992a985aa7295976d42eed98ff0d0eadcd50bd387a55a4f84e94", func := "loop.example/g00321/laws.FnExactSigText", spec := "fnExactSigText", inPlace := ["internal/abi.NoEscape", "internal/bytealg.MakeNoZero"], named := ["loop.example/g00321/impl.turns", "loop.example/g00321/impl.roundConstants"], apart := false, laid := [("loop.example/g00321/impl.roundConstants", laid_loop_example_g00321_impl_roundConstants), ("loop.example/g00321/impl.turns", laid_loop_example_g00321_impl_turns)] }
def FnExactSigTextSaid : Prop := fnExactSigTextRow.holds Tryd.pinned (OpenSpec.ofChange fnExactSigTextSpec)

/-- ITS FALSE NEIGHBOUR: 'it returns false'. Refute it at one input. -/
def fnExactSigTextWrong : ChangeSpec := { name := "fnExactSigText", vars := ["loop.example/g00321/impl.turns", "loop.example/g00321/impl.roundConstants"], fn := fun _ => fun
  | [d1, d2, g1, g2] => { results := [.lit (.bool false)], args := [d1, d2], vars := [g1, g2] }
  | _ => none }
def FnExactSigTextWrongFalsely : Prop := fnExactSigTextRow.holds Tryd.pinned (OpenSpec.ofChange fnExactSigTextWrong)

/-- 'laws.FnBranches': WHATEVER THE INPUT: true; the input reads as it did. -/
def fnBranchesSpec : ChangeSpec := { name := "fnBranches", vars := ["loop.example/g00321/impl.turns", "loop.example/g00321/impl.roundConstants"], fn := fun _ => fun
  | [d, g1, g2] => { results := [.lit (.bool true)], args := [d], vars := [g1, g2] }
  | _ => none }
def fnBranchesRow : OpenClaim := { program := "ytmiiknkfhiecgaadoor", sum := "18cad55f0ee5992a985aa7295976d42eed98ff0d0eadcd50bd387a55a4f84e94", func := "loop.example/g00321/laws.FnBranches", spec := "fnBranches", inPlace := ["internal/abi.NoEscape", "internal/bytealg.MakeNoZero"], named := ["loop.example/g00321/impl.turns", "loop.example/g00321/impl.roundConstants"], apart := false, laid := [("loop.example/g00321/impl.roundConstants", laid_loop_example_g00321_impl_roundConstants), ("loop.example/g00321/impl.turns", laid_loop_example_g00321_impl_turns)] }
def FnBranchesSaid : Prop := fnBranchesRow.holds Tryd.pinned (OpenSpec.ofChange fnBranchesSpec)

/-- ITS FALSE NEIGHBOUR: 'it returns false'. Refute it at one input. -/
def fnBranchesWrong : ChangeSpec := { name := "fnBranches", vars := ["loop.example/g00321/impl.turns", "loop.example/g00321/impl.roundConstants"], fn := fun _ => fun
  | [d, g1, g2] => { results := [.lit (.bool false)], args := [d], vars := [g1, g2] }
  | _ => none }
def FnBranchesWrongFalsely : Prop := fnBranchesRow.holds Tryd.pinned (OpenSpec.ofChange fnBranchesWrong)

/-- 'laws.FnHeads': WHATEVER THE INPUT: true; the input reads as it did. -/
def fnHeadsSpec : ChangeSpec := { name := "fnHeads", vars := ["loop.example/g00321/impl.turns", "loop.example/g00321/impl.roundConstants"], fn := fun _ => fun
  | [d, g1, g2] => { results := [.lit (.bool true)], args := [d], vars := [g1, g2] }
  | _ => none }
def fnHeadsRow : OpenClaim := { program := "ytmiiknkfhiecgaadoor", sum := "18cad55f0ee5992a985aa7295976d42eed98ff0d0eadcd50bd387a55a4f84e94", func := "loop.example/g00321/laws.FnHeads", spec := "fnHeads", inPlace := ["internal/abi.NoEscape", "internal/bytealg.MakeNoZero"], named := ["loop.example/g00321/impl.turns", "loop.example/g00321/impl.roundConstants"], apart := false, laid := [("loop.example/g00321/impl.roundConstants", laid_loop_example_g00321_impl_roundConstants), ("loop.example/g00321/impl.turns", laid_loop_example_g00321_impl_turns)] }
def FnHeadsSaid : Prop := fnHeadsRow.holds Tryd.pinned (OpenSpec.ofChange fnHeadsSpec)

/-- ITS FALSE NEIGHBOUR: 'it returns false'. Refute it at one input. -/
def fnHeadsWrong : ChangeSpec := { name := "fnHeads", vars := ["loop.example/g00321/impl.turns", "loop.example/g00321/impl.roundConstants"], fn := fun _ => fun
  | [d, g1, g2] => { results := [.lit (.bool false)], args := [d], vars := [g1, g2] }
  | _ => none }
def FnHeadsWrongFalsely : Prop := fnHeadsRow.holds Tryd.pinned (OpenSpec.ofChange fnHeadsWrong)

/- THE SECOND FORM. 'bulk': how many values and letters a reading holds, each counted each time it is reached (what is shared counts as often as it is met; a slice's spare places count too). A statement '..UptoSaid' is the law's where the arguments, and the package variables that the reading takes, are together of bulk at most 1048576: NARROWER than '..Said'. Prove '..Said' where nothing that the law and all that it calls make is longer than what came in: it says more and counts as full. Else prove '..UptoSaid'. A law counts once. -/
mutual
def uptoBulk {H : Type} : DataW H → Nat
  | .lit (.string bytes) => bytes.length + 1
  | .lit _ => 1
  | .nil => 1
  | .ptr d => uptoBulk d + 1
  | .slice elems spare => uptoBulkAll elems + uptoBulkAll spare + 1
  | .agg parts => uptoBulkAll parts + 1
  | .iface _ d => uptoBulk d + 1
  | .map entries => uptoBulkEntries entries + 1
  | .held _ => 1
def uptoBulkAll {H : Type} : List (DataW H) → Nat
  | [] => 0
  | d :: r => uptoBulk d + uptoBulkAll r
def uptoBulkEntries {H : Type} : List (Lit × DataW H) → Nat
  | [] => 0
  | x :: r => uptoBulkEntry x + uptoBulkEntries r
def uptoBulkEntry {H : Type} : Lit × DataW H → Nat
  | (.string bytes, d) => bytes.length + uptoBulk d + 1
  | (_, d) => uptoBulk d + 1
 end
def uptoSmall : (H : Type) → List (DataW H) → Bool := fun _ ds => decide (uptoBulkAll ds ≤ 1048576)
def OpenSpec.upto (s : _root_.Go.ChangeSpec) : _root_.Go.OpenSpec := { _root_.Go.OpenSpec.ofChange s with cond := some uptoSmall }

/-- 'laws.FnExactFoldBranch', WHERE WHAT IT READS IS OF BULK AT MOST 1048576: true; the input reads as it did. -/
def fnExactFoldBranchUptoRow : OpenClaim := { program := "ytmiiknkfhiecgaadoor", sum := "18cad55f0ee5992a985aa7295976d42eed98ff0d0eadcd50bd387a55a4f84e94", func := "loop.example/g00321/laws.FnExactFoldBranch", spec := "fnExactFoldBranch", inPlace := ["internal/abi.NoEscape", "internal/bytealg.MakeNoZero"], named := ["loop.example/g00321/impl.turns", "loop.example/g00321/impl.roundConstants"], apart := false, laid := [("loop.example/g00321/impl.roundConstants", laid_loop_example_g00321_impl_roundConstants), ("loop.example/g00321/impl.turns", laid_loop_example_g00321_impl_turns)], narrowed := true }
def FnExactFoldBranchUptoSaid : Prop := fnExactFoldBranchUptoRow.holds Tryd.pinned (OpenSpec.upto fnExactFoldBranchSpec)

/-- 'laws.FnExactRootOf', WHERE WHAT IT READS IS OF BULK AT MOST 1048576: true; the input reads as it did. -/
def fnExactRootOfUptoRow : OpenClaim := { program := "ytmiiknkfhiecgaadoor", sum := "18cad55f0ee5992a985aa7295976d42eed98ff0d0eadcd50bd387a55a4f84e94", func := "loop.example/g00321/laws.FnExactRootOf", spec := "fnExactRootOf", inPlace := ["internal/abi.NoEscape", "internal/bytealg.MakeNoZero"], named := ["loop.example/g00321/impl.turns", "loop.example/g00321/impl.roundConstants"], apart := false, laid := [("loop.example/g00321/impl.roundConstants", laid_loop_example_g00321_impl_roundConstants), ("loop.example/g00321/impl.turns", laid_loop_example_g00321_impl_turns)], narrowed := true }
def FnExactRootOfUptoSaid : Prop := fnExactRootOfUptoRow.holds Tryd.pinned (OpenSpec.upto fnExactRootOfSpec)

/-- 'laws.FnExactHeadRoot', WHERE WHAT IT READS IS OF BULK AT MOST 1048576: true; the input reads as it did. -/
def fnExactHeadRootUptoRow : OpenClaim := { program := "ytmiiknkfhiecgaadoor", sum := "18cad55f0ee5992a985aa7295976d42eed98ff0d0eadcd50bd387a55a4f84e94", func := "loop.example/g00321/laws.FnExactHeadRoot", spec := "fnExactHeadRoot", inPlace := ["internal/abi.NoEscape", "internal/bytealg.MakeNoZero"], named := ["loop.example/g00321/impl.turns", "loop.example/g00321/impl.roundConstants"], apart := false, laid := [("loop.example/g00321/impl.roundConstants", laid_loop_example_g00321_impl_roundConstants), ("loop.example/g00321/impl.turns", laid_loop_example_g00321_impl_turns)], narrowed := true }
def FnExactHeadRootUptoSaid : Prop := fnExactHeadRootUptoRow.holds Tryd.pinned (OpenSpec.upto fnExactHeadRootSpec)

/-- 'laws.FnExactBranchOf', WHERE WHAT IT READS IS OF BULK AT MOST 1048576: true; the input reads as it did. -/
def fnExactBranchOfUptoRow : OpenClaim := { program := "ytmiiknkfhiecgaadoor", sum := "18cad55f0ee5992a985aa7295976d42eed98ff0d0eadcd50bd387a55a4f84e94", func := "loop.example/g00321/laws.FnExactBranchOf", spec := "fnExactBranchOf", inPlace := ["internal/abi.NoEscape", "internal/bytealg.MakeNoZero"], named := ["loop.example/g00321/impl.turns", "loop.example/g00321/impl.roundConstants"], apart := false, laid := [("loop.example/g00321/impl.roundConstants", laid_loop_example_g00321_impl_roundConstants), ("loop.example/g00321/impl.turns", laid_loop_example_g00321_impl_turns)], narrowed := true }
def FnExactBranchOfUptoSaid : Prop := fnExactBranchOfUptoRow.holds Tryd.pinned (OpenSpec.upto fnExactBranchOfSpec)

/-- 'laws.FnOneLeaf', WHERE WHAT IT READS IS OF BULK AT MOST 1048576: true; the input reads as it did. -/
def fnOneLeafUptoRow : OpenClaim := { program := "ytmiiknkfhiecgaadoor", sum := "18cad55f0ee5992a985aa7295976d42eed98ff0d0eadcd50bd387a55a4f84e94", func := "loop.example/g00321/laws.FnOneLeaf", spec := "fnOneLeaf", inPlace := ["internal/abi.NoEscape", "internal/bytealg.MakeNoZero"], named := ["loop.example/g00321/impl.turns", "loop.example/g00321/impl.roundConstants"], apart := false, laid := [("loop.example/g00321/impl.roundConstants", laid_loop_example_g00321_impl_roundConstants), ("loop.example/g00321/impl.turns", laid_loop_example_g00321_impl_turns)], narrowed := true }
def FnOneLeafUptoSaid : Prop := fnOneLeafUptoRow.holds Tryd.pinned (OpenSpec.upto fnOneLeafSpec)

/-- 'laws.FnExactSigText', WHERE WHAT IT READS IS OF BULK AT MOST 1048576: true; the input reads as it did. -/
def fnExactSigTextUptoRow : OpenClaim := { program := "ytmiiknkfhiecgaadoor", sum := "18cad55f0ee5992a985aa7295976d42eed98ff0d0eadcd50bd387a55a4f84e94", func := "loop.example/g00321/laws.FnExactSigText", spec := "fnExactSigText", inPlace := ["internal/abi.NoEscape", "internal/bytealg.MakeNoZero"], named := ["loop.example/g00321/impl.turns", "loop.example/g00321/impl.roundConstants"], apart := false, laid := [("loop.example/g00321/impl.roundConstants", laid_loop_example_g00321_impl_roundConstants), ("loop.example/g00321/impl.turns", laid_loop_example_g00321_impl_turns)], narrowed := true }
def FnExactSigTextUptoSaid : Prop := fnExactSigTextUptoRow.holds Tryd.pinned (OpenSpec.upto fnExactSigTextSpec)

/-- 'laws.FnBranches', WHERE WHAT IT READS IS OF BULK AT MOST 1048576: true; the input reads as it did. -/
def fnBranchesUptoRow : OpenClaim := { program := "ytmiiknkfhiecgaadoor", sum := "18cad55f0ee5992a985aa7295976d42eed98ff0d0eadcd50bd387a55a4f84e94", func := "loop.example/g00321/laws.FnBranches", spec := "fnBranches", inPlace := ["internal/abi.NoEscape", "internal/bytealg.MakeNoZero"], named := ["loop.example/g00321/impl.turns", "loop.example/g00321/impl.roundConstants"], apart := false, laid := [("loop.example/g00321/impl.roundConstants", laid_loop_example_g00321_impl_roundConstants), ("loop.example/g00321/impl.turns", laid_loop_example_g00321_impl_turns)], narrowed := true }
def FnBranchesUptoSaid : Prop := fnBranchesUptoRow.holds Tryd.pinned (OpenSpec.upto fnBranchesSpec)

/-- 'laws.FnHeads', WHERE WHAT IT READS IS OF BULK AT MOST 1048576: true; the input reads as it did. -/
def fnHeadsUptoRow : OpenClaim := { program := "ytmiiknkfhiecgaadoor", sum := "18cad55f0ee5992a985aa7295976d42eed98ff0d0eadcd50bd387a55a4f84e94", func := "loop.example/g00321/laws.FnHeads", spec := "fnHeads", inPlace := ["internal/abi.NoEscape", "internal/bytealg.MakeNoZero"], named := ["loop.example/g00321/impl.turns", "loop.example/g00321/impl.roundConstants"], apart := false, laid := [("loop.example/g00321/impl.roundConstants", laid_loop_example_g00321_impl_roundConstants), ("loop.example/g00321/impl.turns", laid_loop_example_g00321_impl_turns)], narrowed := true }
def FnHeadsUptoSaid : Prop := fnHeadsUptoRow.holds Tryd.pinned (OpenSpec.upto fnHeadsSpec)

end Rows
end Go.Proofs.YtmiiknkfhiecgaaDoor
