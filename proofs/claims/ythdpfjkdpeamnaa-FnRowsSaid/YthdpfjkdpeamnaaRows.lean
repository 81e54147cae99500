/-
  No cell of these rows narrows 'for every input' (looked for: loops, veiled, ifaces, maps, wideKeys, modest, calm, conditions, laid).
  DERIVED. THE GIVEN ROWS OF THIS SEAT. 12 by the template 'for every input the law returns true; each argument reads behind the call as it read before'; 0 by the template 'total and deterministic' (their statements: YthdpfjkdpeamnaaTotals.lean).
  GIVEN WITH THE SEED: the statements are not yours to turn. If you find one false, say at which input.
  Laid BY PROGRAM, IN A SANDBOX (cutbox-rows.mjs): the forced cells as the released guide's own fill.sh prints them over the translation 97f4e77bd04a3a90… (all of the seat's roots in one cut). By AI agents, Wed Nov 11 2026. No macro, syntax, notation, axiom, sorry.
-/
import Derived.Test.YthdpfjkdpeamnaaChecked
import GoSem.Claim
import GoSem.ClaimJoined
import GoSem.ClaimMapViews
import Derived.JoinedTies
import Derived.KernelRfl
namespace Go.Proofs.Ythdpfjkdpeamnaa
/- THE CELL 'sum', in the pinned program and in every row, IS THE sha256 OF THE DUMP (.gsa) THAT YthdpfjkdpeamnaaProg.lean LOADS. Nothing in Lean hashes anything: it is a label: what it is worth is what the hold of that sum in a sandbox is worth. -/
noncomputable def Try.pinned : Pinned := { name := "ythdpfjkdpeamnaa", sum := "97f4e77bd04a3a9010b4b8b8e728fc3ff9680a33cc52fc0cba6093f90edc6ec8", checked := Try.checked }
namespace Rows
def none {H : Type} : Left H := { results := [], args := [] }

/-- 'laws.FnExactLevelsOf': WHATEVER THE INPUT: true; the input reads as it did. -/
def fnExactLevelsOfSpec : ChangeSpec := { name := "fnExactLevelsOf", fn := fun _ => fun
  | [d] => { results := [.lit (.bool true)], args := [d] }
  | _ => none }
def fnExactLevelsOfRow : OpenClaim := { program := "ythdpfjkdpeamnaa", sum := "97f4e77bd04a3a9010b4b8b8e728fc3ff9680a33cc52fc0cba6093f90edc6ec8", func := "loop.example/g00321/laws.FnExactLevelsOf", spec := "fnExactLevelsOf", apart := false }
def FnExactLevelsOfSaid : Prop := fnExactLevelsOfRow.holds Try.pinned (OpenSpec.ofChange fnExactLevelsOfSpec)

/-- ITS FALSE NEIGHBOUR: 'it returns false'. Refute it at one input. -/
def fnExactLevelsOfWrong : ChangeSpec := { name := "fnExactLevelsOf", fn := fun _ => fun
  | [d] => { results := [.lit (.bool false)], args := [d] }
  | _ => none }
def FnExactLevelsOfWrongFalsely : Prop := fnExactLevelsOfRow.holds Try.pinned (OpenSpec.ofChange fnExactLevelsOfWrong)

/-- 'laws.FnExactHeadOk': WHATEVER THE INPUT: true; the input reads as it did. -/
def fnExactHeadOkSpec : ChangeSpec := { name := "fnExactHeadOk", fn := fun _ => fun
  | [d] => { results := [.lit (.bool true)], args := [d] }
  | _ => none }
def fnExactHeadOkRow : OpenClaim := { program := "ythdpfjkdpeamnaa", sum := "97f4e77bd04a3a9010b4b8b8e728fc3ff9680a33cc52fc0cba6093f90edc6ec8", func := "loop.example/g00321/laws.FnExactHeadOk", spec := "fnExactHeadOk", apart := false }
def FnExactHeadOkSaid : Prop := fnExactHeadOkRow.holds Try.pinned (OpenSpec.ofChange fnExactHeadOkSpec)

/-- ITS FALSE NEIGHBOUR: 'it returns false'. Refute it at one input. -/
def fnExactHeadOkWrong : ChangeSpec := { name := "fnExactHeadOk", fn := fun _ => fun
  | [d] => { results := [.lit (.bool false)], args := [d] }
  | _ => none }
def FnExactHeadOkWrongFalsely : Prop := fnExactHeadOkRow.holds Try.pinned (OpenSpec.ofChange fnExactHeadOkWrong)

/-- 'laws.FnExactSecretsOf': WHATEVER THE INPUT: true; the input reads as it did. -/
def fnExactSecretsOfSpec : ChangeSpec := { name := "fnExactSecretsOf", fn := fun _ => fun
  | [d] => { results := [.lit (.bool true)], args := [d] }
  | _ => none }
def fnExactSecretsOfRow : OpenClaim := { program := "ythdpfjkdpeamnaa", sum := "97f4e77bd04a3a9010b4b8b8e728fc3ff9680a33cc52fc0cba6093f90edc6ec8", func := "loop.example/g00321/laws.FnExactSecretsOf", spec := "fnExactSecretsOf", apart := false }
def FnExactSecretsOfSaid : Prop := fnExactSecretsOfRow.holds Try.pinned (OpenSpec.ofChange fnExactSecretsOfSpec)

/-- ITS FALSE NEIGHBOUR: 'it returns false'. Refute it at one input. -/
def fnExactSecretsOfWrong : ChangeSpec := { name := "fnExactSecretsOf", fn := fun _ => fun
  | [d] => { results := [.lit (.bool false)], args := [d] }
  | _ => none }
def FnExactSecretsOfWrongFalsely : Prop := fnExactSecretsOfRow.holds Try.pinned (OpenSpec.ofChange fnExactSecretsOfWrong)

/-- 'laws.FnExactCountBits': WHATEVER THE INPUT: true; the input reads as it did. -/
def fnExactCountBitsSpec : ChangeSpec := { name := "fnExactCountBits", fn := fun _ => fun
  | [d] => { results := [.lit (.bool true)], args := [d] }
  | _ => none }
def fnExactCountBitsRow : OpenClaim := { program := "ythdpfjkdpeamnaa", sum := "97f4e77bd04a3a9010b4b8b8e728fc3ff9680a33cc52fc0cba6093f90edc6ec8", func := "loop.example/g00321/laws.FnExactCountBits", spec := "fnExactCountBits", apart := false }
def FnExactCountBitsSaid : Prop := fnExactCountBitsRow.holds Try.pinned (OpenSpec.ofChange fnExactCountBitsSpec)

/-- ITS FALSE NEIGHBOUR: 'it returns false'. Refute it at one input. -/
def fnExactCountBitsWrong : ChangeSpec := { name := "fnExactCountBits", fn := fun _ => fun
  | [d] => { results := [.lit (.bool false)], args := [d] }
  | _ => none }
def FnExactCountBitsWrongFalsely : Prop := fnExactCountBitsRow.holds Try.pinned (OpenSpec.ofChange fnExactCountBitsWrong)

/-- 'laws.FnExactHeadText': WHATEVER THE INPUT: true; the input reads as it did. -/
def fnExactHeadTextSpec : ChangeSpec := { name := "fnExactHeadText", fn := fun _ => fun
  | [d] => { results := [.lit (.bool true)], args := [d] }
  | _ => none }
def fnExactHeadTextRow : OpenClaim := { program := "ythdpfjkdpeamnaa", sum := "97f4e77bd04a3a9010b4b8b8e728fc3ff9680a33cc52fc0cba6093f90edc6ec8", func := "loop.example/g00321/laws.FnExactHeadText", spec := "fnExactHeadText", apart := false }
def FnExactHeadTextSaid : Prop := fnExactHeadTextRow.holds Try.pinned (OpenSpec.ofChange fnExactHeadTextSpec)

/-- ITS FALSE NEIGHBOUR: 'it returns false'. Refute it at one input. -/
def fnExactHeadTextWrong : ChangeSpec := { name := "fnExactHeadText", fn := fun _ => fun
  | [d] => { results := [.lit (.bool false)], args := [d] }
  | _ => none }
def FnExactHeadTextWrongFalsely : Prop := fnExactHeadTextRow.holds Try.pinned (OpenSpec.ofChange fnExactHeadTextWrong)

/-- 'laws.FnExactPublicOf': WHATEVER THE INPUT: true; the input reads as it did. -/
def fnExactPublicOfSpec : ChangeSpec := { name := "fnExactPublicOf", fn := fun _ => fun
  | [d] => { results := [.lit (.bool true)], args := [d] }
  | _ => none }
def fnExactPublicOfRow : OpenClaim := { program := "ythdpfjkdpeamnaa", sum := "97f4e77bd04a3a9010b4b8b8e728fc3ff9680a33cc52fc0cba6093f90edc6ec8", func := "loop.example/g00321/laws.FnExactPublicOf", spec := "fnExactPublicOf", apart := false }
def FnExactPublicOfSaid : Prop := fnExactPublicOfRow.holds Try.pinned (OpenSpec.ofChange fnExactPublicOfSpec)

/-- ITS FALSE NEIGHBOUR: 'it returns false'. Refute it at one input. -/
def fnExactPublicOfWrong : ChangeSpec := { name := "fnExactPublicOf", fn := fun _ => fun
  | [d] => { results := [.lit (.bool false)], args := [d] }
  | _ => none }
def FnExactPublicOfWrongFalsely : Prop := fnExactPublicOfRow.holds Try.pinned (OpenSpec.ofChange fnExactPublicOfWrong)

/-- 'laws.FnExactReadHead': WHATEVER THE INPUT: true; the input reads as it did. -/
def fnExactReadHeadSpec : ChangeSpec := { name := "fnExactReadHead", fn := fun _ => fun
  | [d] => { results := [.lit (.bool true)], args := [d] }
  | _ => none }
def fnExactReadHeadRow : OpenClaim := { program := "ythdpfjkdpeamnaa", sum := "97f4e77bd04a3a9010b4b8b8e728fc3ff9680a33cc52fc0cba6093f90edc6ec8", func := "loop.example/g00321/laws.FnExactReadHead", spec := "fnExactReadHead", apart := false }
def FnExactReadHeadSaid : Prop := fnExactReadHeadRow.holds Try.pinned (OpenSpec.ofChange fnExactReadHeadSpec)

/-- ITS FALSE NEIGHBOUR: 'it returns false'. Refute it at one input. -/
def fnExactReadHeadWrong : ChangeSpec := { name := "fnExactReadHead", fn := fun _ => fun
  | [d] => { results := [.lit (.bool false)], args := [d] }
  | _ => none }
def FnExactReadHeadWrongFalsely : Prop := fnExactReadHeadRow.holds Try.pinned (OpenSpec.ofChange fnExactReadHeadWrong)

/-- 'laws.FnExactCountWitness': WHATEVER THE INPUT: true; the input reads as it did. -/
def fnExactCountWitnessSpec : ChangeSpec := { name := "fnExactCountWitness", fn := fun _ => fun
  | [d] => { results := [.lit (.bool true)], args := [d] }
  | _ => none }
def fnExactCountWitnessRow : OpenClaim := { program := "ythdpfjkdpeamnaa", sum := "97f4e77bd04a3a9010b4b8b8e728fc3ff9680a33cc52fc0cba6093f90edc6ec8", func := "loop.example/g00321/laws.FnExactCountWitness", spec := "fnExactCountWitness", apart := false }
def FnExactCountWitnessSaid : Prop := fnExactCountWitnessRow.holds Try.pinned (OpenSpec.ofChange fnExactCountWitnessSpec)

/-- ITS FALSE NEIGHBOUR: 'it returns false'. Refute it at one input. -/
def fnExactCountWitnessWrong : ChangeSpec := { name := "fnExactCountWitness", fn := fun _ => fun
  | [d] => { results := [.lit (.bool false)], args := [d] }
  | _ => none }
def FnExactCountWitnessWrongFalsely : Prop := fnExactCountWitnessRow.holds Try.pinned (OpenSpec.ofChange fnExactCountWitnessWrong)

/-- 'laws.FnExactCountSystem': WHATEVER THE INPUT: true; the input reads as it did. -/
def fnExactCountSystemSpec : ChangeSpec := { name := "fnExactCountSystem", fn := fun _ => fun
  | [] => { results := [.lit (.bool true)], args := [] }
  | _ => none }
def fnExactCountSystemRow : OpenClaim := { program := "ythdpfjkdpeamnaa", sum := "97f4e77bd04a3a9010b4b8b8e728fc3ff9680a33cc52fc0cba6093f90edc6ec8", func := "loop.example/g00321/laws.FnExactCountSystem", spec := "fnExactCountSystem", apart := false }
def FnExactCountSystemSaid : Prop := fnExactCountSystemRow.holds Try.pinned (OpenSpec.ofChange fnExactCountSystemSpec)

/-- ITS FALSE NEIGHBOUR: 'it returns false'. Refute it at one input. -/
def fnExactCountSystemWrong : ChangeSpec := { name := "fnExactCountSystem", fn := fun _ => fun
  | [] => { results := [.lit (.bool false)], args := [] }
  | _ => none }
def FnExactCountSystemWrongFalsely : Prop := fnExactCountSystemRow.holds Try.pinned (OpenSpec.ofChange fnExactCountSystemWrong)

/-- 'laws.FnExactSystemOk': WHATEVER THE INPUT: true; the input reads as it did. -/
def fnExactSystemOkSpec : ChangeSpec := { name := "fnExactSystemOk", fn := fun _ => fun
  | [d] => { results := [.lit (.bool true)], args := [d] }
  | _ => none }
def fnExactSystemOkRow : OpenClaim := { program := "ythdpfjkdpeamnaa", sum := "97f4e77bd04a3a9010b4b8b8e728fc3ff9680a33cc52fc0cba6093f90edc6ec8", func := "loop.example/g00321/laws.FnExactSystemOk", spec := "fnExactSystemOk", apart := false }
def FnExactSystemOkSaid : Prop := fnExactSystemOkRow.holds Try.pinned (OpenSpec.ofChange fnExactSystemOkSpec)

/-- ITS FALSE NEIGHBOUR: 'it returns false'. Refute it at one input. -/
def fnExactSystemOkWrong : ChangeSpec := { name := "fnExactSystemOk", fn := fun _ => fun
  | [d] => { results := [.lit (.bool false)], args := [d] }
  | _ => none }
def FnExactSystemOkWrongFalsely : Prop := fnExactSystemOkRow.holds Try.pinned (OpenSpec.ofChange fnExactSystemOkWrong)

/-- 'laws.FnExactSatisfied': WHATEVER THE INPUT: true; the input reads as it did. -/
def fnExactSatisfiedSpec : ChangeSpec := { name := "fnExactSatisfied", fn := fun _ => fun
  | [d1, d2] => { results := [.lit (.bool true)], args := [d1, d2] }
  | _ => none }
def fnExactSatisfiedRow : OpenClaim := { program := "ythdpfjkdpeamnaa", sum := "97f4e77bd04a3a9010b4b8b8e728fc3ff9680a33cc52fc0cba6093f90edc6ec8", func := "loop.example/g00321/laws.FnExactSatisfied", spec := "fnExactSatisfied", apart := false }
def FnExactSatisfiedSaid : Prop := fnExactSatisfiedRow.holds Try.pinned (OpenSpec.ofChange fnExactSatisfiedSpec)

/-- ITS FALSE NEIGHBOUR: 'it returns false'. Refute it at one input. -/
def fnExactSatisfiedWrong : ChangeSpec := { name := "fnExactSatisfied", fn := fun _ => fun
  | [d1, d2] => { results := [.lit (.bool false)], args := [d1, d2] }
  | _ => none }
def FnExactSatisfiedWrongFalsely : Prop := fnExactSatisfiedRow.holds Try.pinned (OpenSpec.ofChange fnExactSatisfiedWrong)

/-- 'laws.FnRows': WHATEVER THE INPUT: true; the input reads as it did. -/
def fnRowsSpec : ChangeSpec := { name := "fnRows", fn := fun _ => fun
  | [d] => { results := [.lit (.bool true)], args := [d] }
  | _ => none }
def fnRowsRow : OpenClaim := { program := "ythdpfjkdpeamnaa", sum := "97f4e77bd04a3a9010b4b8b8e728fc3ff9680a33cc52fc0cba6093f90edc6ec8", func := "loop.example/g00321/laws.FnRows", spec := "fnRows", apart := false }
def FnRowsSaid : Prop := fnRowsRow.holds Try.pinned (OpenSpec.ofChange fnRowsSpec)

/-- ITS FALSE NEIGHBOUR: 'it returns false'. Refute it at one input. -/
def fnRowsWrong : ChangeSpec := { name := "fnRows", fn := fun _ => fun
  | [d] => { results := [.lit (.bool false)], args := [d] }
  | _ => none }
def FnRowsWrongFalsely : Prop := fnRowsRow.holds Try.pinned (OpenSpec.ofChange fnRowsWrong)

/- THE SECOND FORM. 'bulk': how many values and letters a reading holds, each counted each time it is reached (what is shared counts as often as it is met; a slice's spare places count too). A statement '..UptoSaid' is the law's where the arguments, and the package variables that the reading takes, are together of bulk at most 1048576: NARROWER than '..Said'. Prove '..Said' where nothing that the law and all that it calls make is longer than what came in: it says more and counts as full. Else prove '..UptoSaid'. A law counts once. -/
mutual
def uptoBulk {H : Type} : DataW H → Nat
  | .lit (.string bytes) => bytes.length + 1
  | .lit _ => 1
  | .nil => 1
  | .ptr d => uptoBulk d + 1
  | .slice elems spare => uptoBulkAll elems + uptoBulkAll spare + 1
  | .agg parts => uptoBulkAll parts + 1
  | .iface _ d => uptoBulk d + 1
  | .map entries => uptoBulkEntries entries + 1
  | .held _ => 1
def uptoBulkAll {H : Type} : List (DataW H) → Nat
  | [] => 0
  | d :: r => uptoBulk d + uptoBulkAll r
def uptoBulkEntries {H : Type} : List (Lit × DataW H) → Nat
  | [] => 0
  | x :: r => uptoBulkEntry x + uptoBulkEntries r
def uptoBulkEntry {H : Type} : Lit × DataW H → Nat
  | (.string bytes, d) => bytes.length + uptoBulk d + 1
  | (_, d) => uptoBulk d + 1
 end
def uptoSmall : (H : Type) → List (DataW H) → Bool := fun _ ds => decide (uptoBulkAll ds ≤ 1048576)
def OpenSpec.upto (s : _root_.Go.ChangeSpec) : _root_.Go.OpenSpec := { _root_.Go.OpenSpec.ofChange s with cond := some uptoSmall }

/-- 'laws.FnExactLevelsOf', WHERE WHAT IT READS IS OF BULK AT MOST 1048576: true; the input reads as it did. -/
def fnExactLevelsOfUptoRow : OpenClaim := { program := "ythdpfjkdpeamnaa", sum := "97f4e77bd04a3a9010b4b8b8e728fc3ff9680a33cc52fc0cba6093f90edc6ec8", func := "loop.example/g00321/laws.FnExactLevelsOf", spec := "fnExactLevelsOf", apart := false, narrowed := true }
def FnExactLevelsOfUptoSaid : Prop := fnExactLevelsOfUptoRow.holds Try.pinned (OpenSpec.upto fnExactLevelsOfSpec)

/-- 'laws.FnExactHeadOk', WHERE WHAT IT READS IS OF BULK AT MOST 1048576: true; the input reads as it did. -/
def fnExactHeadOkUptoRow : OpenClaim := { program := "ythdpfjkdpeamnaa", sum := "97f4e77bd04a3a9010b4b8b8e728fc3ff9680a33cc52fc0cba6093f90edc6ec8", func := "loop.example/g00321/laws.FnExactHeadOk", spec := "fnExactHeadOk", apart := false, narrowed := true }
def FnExactHeadOkUptoSaid : Prop := fnExactHeadOkUptoRow.holds Try.pinned (OpenSpec.upto fnExactHeadOkSpec)

/-- 'laws.FnExactSecretsOf', WHERE WHAT IT READS IS OF BULK AT MOST 1048576: true; the input reads as it did. -/
def fnExactSecretsOfUptoRow : OpenClaim := { program := "ythdpfjkdpeamnaa", sum := "97f4e77bd04a3a9010b4b8b8e728fc3ff9680a33cc52fc0cba6093f90edc6ec8", func := "loop.example/g00321/laws.FnExactSecretsOf", spec := "fnExactSecretsOf", apart := false, narrowed := true }
def FnExactSecretsOfUptoSaid : Prop := fnExactSecretsOfUptoRow.holds Try.pinned (OpenSpec.upto fnExactSecretsOfSpec)

/-- 'laws.FnExactCountBits', WHERE WHAT IT READS IS OF BULK AT MOST 1048576: true; the input reads as it did. -/
def fnExactCountBitsUptoRow : OpenClaim := { program := "ythdpfjkdpeamnaa", sum := "97f4e77bd04a3a9010b4b8b8e728fc3ff9680a33cc52fc0cba6093f90edc6ec8", func := "loop.example/g00321/laws.FnExactCountBits", spec := "fnExactCountBits", apart := false, narrowed := true }
def FnExactCountBitsUptoSaid : Prop := fnExactCountBitsUptoRow.holds Try.pinned (OpenSpec.upto fnExactCountBitsSpec)

/-- 'laws.FnExactHeadText', WHERE WHAT IT READS IS OF BULK AT MOST 1048576: true; the input reads as it did. -/
def fnExactHeadTextUptoRow : OpenClaim := { program := "ythdpfjkdpeamnaa", sum := "97f4e77bd04a3a9010b4b8b8e728fc3ff9680a33cc52fc0cba6093f90edc6ec8", func := "loop.example/g00321/laws.FnExactHeadText", spec := "fnExactHeadText", apart := false, narrowed := true }
def FnExactHeadTextUptoSaid : Prop := fnExactHeadTextUptoRow.holds Try.pinned (OpenSpec.upto fnExactHeadTextSpec)

/-- 'laws.FnExactPublicOf', WHERE WHAT IT READS IS OF BULK AT MOST 1048576: true; the input reads as it did. -/
def fnExactPublicOfUptoRow : OpenClaim := { program := "ythdpfjkdpeamnaa", sum := "97f4e77bd04a3a9010b4b8b8e728fc3ff9680a33cc52fc0cba6093f90edc6ec8", func := "loop.example/g00321/laws.FnExactPublicOf", spec := "fnExactPublicOf", apart := false, narrowed := true }
def FnExactPublicOfUptoSaid : Prop := fnExactPublicOfUptoRow.holds Try.pinned (OpenSpec.upto fnExactPublicOfSpec)

/-- 'laws.FnExactReadHead', WHERE WHAT IT READS IS OF BULK AT MOST 1048576: true; the input reads as it did. -/
def fnExactReadHeadUptoRow : OpenClaim := { program := "ythdpfjkdpeamnaa", sum := "97f4e77bd04a3a9010b4b8b8e728fc3ff9680a33cc52fc0cba6093f90edc6ec8", func := "loop.example/g00321/laws.FnExactReadHead", spec := "fnExactReadHead", apart := false, narrowed := true }
def FnExactReadHeadUptoSaid : Prop := fnExactReadHeadUptoRow.holds Try.pinned (OpenSpec.upto fnExactReadHeadSpec)

/-- 'laws.FnExactCountWitness', WHERE WHAT IT READS IS OF BULK AT MOST 1048576: true; the input reads as it did. -/
def fnExactCountWitnessUptoRow : OpenClaim := { program := "ythdpfjkdpeamnaa", sum := "97f4e77bd04a3a9010b4b8b8e728fc3ff9680a33cc52fc0cba6093f90edc6ec8", func := "loop.example/g00321/laws.FnExactCountWitness", spec := "fnExactCountWitness", apart := false, narrowed := true }
def FnExactCountWitnessUptoSaid : Prop := fnExactCountWitnessUptoRow.holds Try.pinned (OpenSpec.upto fnExactCountWitnessSpec)

/-- 'laws.FnExactCountSystem', WHERE WHAT IT READS IS OF BULK AT MOST 1048576: true; the input reads as it did. -/
def fnExactCountSystemUptoRow : OpenClaim := { program := "ythdpfjkdpeamnaa", sum := "97f4e77bd04a3a9010b4b8b8e728fc3ff9680a33cc52fc0cba6093f90edc6ec8", func := "loop.example/g00321/laws.FnExactCountSystem", spec := "fnExactCountSystem", apart := false, narrowed := true }
def FnExactCountSystemUptoSaid : Prop := fnExactCountSystemUptoRow.holds Try.pinned (OpenSpec.upto fnExactCountSystemSpec)

/-- 'laws.FnExactSystemOk', WHERE WHAT IT READS IS OF BULK AT MOST 1048576: true; the input reads as it did. -/
def fnExactSystemOkUptoRow : OpenClaim := { program := "ythdpfjkdpeamnaa", sum := "97f4e77bd04a3a9010b4b8b8e728fc3ff9680a33cc52fc0cba6093f90edc6ec8", func := "loop.example/g00321/laws.FnExactSystemOk", spec := "fnExactSystemOk", apart := false, narrowed := true }
def FnExactSystemOkUptoSaid : Prop := fnExactSystemOkUptoRow.holds Try.pinned (OpenSpec.upto fnExactSystemOkSpec)

/-- 'laws.FnExactSatisfied', WHERE WHAT IT READS IS OF BULK AT MOST 1048576: true; the input reads as it did. -/
def fnExactSatisfiedUptoRow : OpenClaim := { program := "ythdpfjkdpeamnaa", sum := "97f4e77bd04a3a9010b4b8b8e728fc3ff9680a33cc52fc0cba6093f90edc6ec8", func := "loop.example/g00321/laws.FnExactSatisfied", spec := "fnExactSatisfied", apart := false, narrowed := true }
def FnExactSatisfiedUptoSaid : Prop := fnExactSatisfiedUptoRow.holds Try.pinned (OpenSpec.upto fnExactSatisfiedSpec)

/-- 'laws.FnRows', WHERE WHAT IT READS IS OF BULK AT MOST 1048576: true; the input reads as it did. -/
def fnRowsUptoRow : OpenClaim := { program := "ythdpfjkdpeamnaa", sum := "97f4e77bd04a3a9010b4b8b8e728fc3ff9680a33cc52fc0cba6093f90edc6ec8", func := "loop.example/g00321/laws.FnRows", spec := "fnRows", apart := false, narrowed := true }
def FnRowsUptoSaid : Prop := fnRowsUptoRow.holds Try.pinned (OpenSpec.upto fnRowsSpec)

end Rows
end Go.Proofs.Ythdpfjkdpeamnaa
