/-
  No cell of these rows narrows 'for every input' (looked for: loops, veiled, ifaces, maps, wideKeys, modest, calm, conditions, laid).
  DERIVED. THE GIVEN ROWS OF THIS SEAT. 11 by the template 'for every input the law returns true; each argument reads behind the call as it read before'; 0 by the template 'total and deterministic' (their statements: YtmbjefdkjdemhaaTotals.lean).
  GIVEN WITH THE SEED: the statements are not yours to turn. If you find one false, say at which input.
  Laid BY PROGRAM, IN A SANDBOX (cutbox-rows.mjs): the forced cells as the released guide's own fill.sh prints them over the translation 11f73faf0c7134dc… (all of the seat's roots in one cut). By AI agents, Wed Nov 11 2026. No macro, syntax, notation, axiom, sorry.
-/
import Derived.Test.YtmbjefdkjdemhaaChecked
import GoSem.Claim
import GoSem.ClaimJoined
import GoSem.ClaimMapViews
import Derived.JoinedTies
import Derived.KernelRfl
namespace Go.Proofs.Ytmbjefdkjdemhaa
/- THE CELL 'sum', in the pinned program and in every row, IS THE sha256 OF THE DUMP (.gsa) THAT YtmbjefdkjdemhaaProg.lean LOADS. Nothing in Lean hashes anything: it is a label: what it is worth is what the hold of that sum in a sandbox is worth. -/
noncomputable def Try.pinned : Pinned := { name := "ytmbjefdkjdemhaa", sum := "11f73faf0c7134dc57799ac2999083a4a7b194011af15df183ad50049840f52e", checked := Try.checked }
namespace Rows
def none {H : Type} : Left H := { results := [], args := [] }

/-- 'laws.FnPairings': WHATEVER THE INPUT: true; the input reads as it did. -/
def fnPairingsSpec : ChangeSpec := { name := "fnPairings", fn := fun _ => fun
  | [d] => { results := [.lit (.bool true)], args := [d] }
  | _ => none }
def fnPairingsRow : OpenClaim := { program := "ytmbjefdkjdemhaa", sum := "11f73faf0c7134dc57799ac2999083a4a7b194011af15df183ad50049840f52e", func := "loop.example/g00321/laws.FnPairings", spec := "fnPairings", apart := false }
def FnPairingsSaid : Prop := fnPairingsRow.holds Try.pinned (OpenSpec.ofChange fnPairingsSpec)

/-- ITS FALSE NEIGHBOUR: 'it returns false'. Refute it at one input. -/
def fnPairingsWrong : ChangeSpec := { name := "fnPairings", fn := fun _ => fun
  | [d] => { results := [.lit (.bool false)], args := [d] }
  | _ => none }
def FnPairingsWrongFalsely : Prop := fnPairingsRow.holds Try.pinned (OpenSpec.ofChange fnPairingsWrong)

/-- 'laws.FnExactPairLine': WHATEVER THE INPUT: true; the input reads as it did. -/
def fnExactPairLineSpec : ChangeSpec := { name := "fnExactPairLine", fn := fun _ => fun
  | [d1, d2, d3] => { results := [.lit (.bool true)], args := [d1, d2, d3] }
  | _ => none }
def fnExactPairLineRow : OpenClaim := { program := "ytmbjefdkjdemhaa", sum := "11f73faf0c7134dc57799ac2999083a4a7b194011af15df183ad50049840f52e", func := "loop.example/g00321/laws.FnExactPairLine", spec := "fnExactPairLine", apart := false }
def FnExactPairLineSaid : Prop := fnExactPairLineRow.holds Try.pinned (OpenSpec.ofChange fnExactPairLineSpec)

/-- ITS FALSE NEIGHBOUR: 'it returns false'. Refute it at one input. -/
def fnExactPairLineWrong : ChangeSpec := { name := "fnExactPairLine", fn := fun _ => fun
  | [d1, d2, d3] => { results := [.lit (.bool false)], args := [d1, d2, d3] }
  | _ => none }
def FnExactPairLineWrongFalsely : Prop := fnExactPairLineRow.holds Try.pinned (OpenSpec.ofChange fnExactPairLineWrong)

/-- 'laws.FnExactPointTimes': WHATEVER THE INPUT: true; the input reads as it did. -/
def fnExactPointTimesSpec : ChangeSpec := { name := "fnExactPointTimes", fn := fun _ => fun
  | [d1, d2] => { results := [.lit (.bool true)], args := [d1, d2] }
  | _ => none }
def fnExactPointTimesRow : OpenClaim := { program := "ytmbjefdkjdemhaa", sum := "11f73faf0c7134dc57799ac2999083a4a7b194011af15df183ad50049840f52e", func := "loop.example/g00321/laws.FnExactPointTimes", spec := "fnExactPointTimes", apart := false }
def FnExactPointTimesSaid : Prop := fnExactPointTimesRow.holds Try.pinned (OpenSpec.ofChange fnExactPointTimesSpec)

/-- ITS FALSE NEIGHBOUR: 'it returns false'. Refute it at one input. -/
def fnExactPointTimesWrong : ChangeSpec := { name := "fnExactPointTimes", fn := fun _ => fun
  | [d1, d2] => { results := [.lit (.bool false)], args := [d1, d2] }
  | _ => none }
def FnExactPointTimesWrongFalsely : Prop := fnExactPointTimesRow.holds Try.pinned (OpenSpec.ofChange fnExactPointTimesWrong)

/-- 'laws.FnGroup': WHATEVER THE INPUT: true; the input reads as it did. -/
def fnGroupSpec : ChangeSpec := { name := "fnGroup", fn := fun _ => fun
  | [d] => { results := [.lit (.bool true)], args := [d] }
  | _ => none }
def fnGroupRow : OpenClaim := { program := "ytmbjefdkjdemhaa", sum := "11f73faf0c7134dc57799ac2999083a4a7b194011af15df183ad50049840f52e", func := "loop.example/g00321/laws.FnGroup", spec := "fnGroup", apart := false }
def FnGroupSaid : Prop := fnGroupRow.holds Try.pinned (OpenSpec.ofChange fnGroupSpec)

/-- ITS FALSE NEIGHBOUR: 'it returns false'. Refute it at one input. -/
def fnGroupWrong : ChangeSpec := { name := "fnGroup", fn := fun _ => fun
  | [d] => { results := [.lit (.bool false)], args := [d] }
  | _ => none }
def FnGroupWrongFalsely : Prop := fnGroupRow.holds Try.pinned (OpenSpec.ofChange fnGroupWrong)

/-- 'laws.FnExactKeyOf': WHATEVER THE INPUT: true; the input reads as it did. -/
def fnExactKeyOfSpec : ChangeSpec := { name := "fnExactKeyOf", fn := fun _ => fun
  | [d] => { results := [.lit (.bool true)], args := [d] }
  | _ => none }
def fnExactKeyOfRow : OpenClaim := { program := "ytmbjefdkjdemhaa", sum := "11f73faf0c7134dc57799ac2999083a4a7b194011af15df183ad50049840f52e", func := "loop.example/g00321/laws.FnExactKeyOf", spec := "fnExactKeyOf", apart := false }
def FnExactKeyOfSaid : Prop := fnExactKeyOfRow.holds Try.pinned (OpenSpec.ofChange fnExactKeyOfSpec)

/-- ITS FALSE NEIGHBOUR: 'it returns false'. Refute it at one input. -/
def fnExactKeyOfWrong : ChangeSpec := { name := "fnExactKeyOf", fn := fun _ => fun
  | [d] => { results := [.lit (.bool false)], args := [d] }
  | _ => none }
def FnExactKeyOfWrongFalsely : Prop := fnExactKeyOfRow.holds Try.pinned (OpenSpec.ofChange fnExactKeyOfWrong)

/-- 'laws.FnExactSumPoints': WHATEVER THE INPUT: true; the input reads as it did. -/
def fnExactSumPointsSpec : ChangeSpec := { name := "fnExactSumPoints", fn := fun _ => fun
  | [d] => { results := [.lit (.bool true)], args := [d] }
  | _ => none }
def fnExactSumPointsRow : OpenClaim := { program := "ytmbjefdkjdemhaa", sum := "11f73faf0c7134dc57799ac2999083a4a7b194011af15df183ad50049840f52e", func := "loop.example/g00321/laws.FnExactSumPoints", spec := "fnExactSumPoints", apart := false }
def FnExactSumPointsSaid : Prop := fnExactSumPointsRow.holds Try.pinned (OpenSpec.ofChange fnExactSumPointsSpec)

/-- ITS FALSE NEIGHBOUR: 'it returns false'. Refute it at one input. -/
def fnExactSumPointsWrong : ChangeSpec := { name := "fnExactSumPoints", fn := fun _ => fun
  | [d] => { results := [.lit (.bool false)], args := [d] }
  | _ => none }
def FnExactSumPointsWrongFalsely : Prop := fnExactSumPointsRow.holds Try.pinned (OpenSpec.ofChange fnExactSumPointsWrong)

/-- 'laws.FnExactMiller': WHATEVER THE INPUT: true; the input reads as it did. -/
def fnExactMillerSpec : ChangeSpec := { name := "fnExactMiller", fn := fun _ => fun
  | [d1, d2] => { results := [.lit (.bool true)], args := [d1, d2] }
  | _ => none }
def fnExactMillerRow : OpenClaim := { program := "ytmbjefdkjdemhaa", sum := "11f73faf0c7134dc57799ac2999083a4a7b194011af15df183ad50049840f52e", func := "loop.example/g00321/laws.FnExactMiller", spec := "fnExactMiller", apart := false }
def FnExactMillerSaid : Prop := fnExactMillerRow.holds Try.pinned (OpenSpec.ofChange fnExactMillerSpec)

/-- ITS FALSE NEIGHBOUR: 'it returns false'. Refute it at one input. -/
def fnExactMillerWrong : ChangeSpec := { name := "fnExactMiller", fn := fun _ => fun
  | [d1, d2] => { results := [.lit (.bool false)], args := [d1, d2] }
  | _ => none }
def FnExactMillerWrongFalsely : Prop := fnExactMillerRow.holds Try.pinned (OpenSpec.ofChange fnExactMillerWrong)

/-- 'laws.FnExactPairing': WHATEVER THE INPUT: true; the input reads as it did. -/
def fnExactPairingSpec : ChangeSpec := { name := "fnExactPairing", fn := fun _ => fun
  | [d1, d2] => { results := [.lit (.bool true)], args := [d1, d2] }
  | _ => none }
def fnExactPairingRow : OpenClaim := { program := "ytmbjefdkjdemhaa", sum := "11f73faf0c7134dc57799ac2999083a4a7b194011af15df183ad50049840f52e", func := "loop.example/g00321/laws.FnExactPairing", spec := "fnExactPairing", apart := false }
def FnExactPairingSaid : Prop := fnExactPairingRow.holds Try.pinned (OpenSpec.ofChange fnExactPairingSpec)

/-- ITS FALSE NEIGHBOUR: 'it returns false'. Refute it at one input. -/
def fnExactPairingWrong : ChangeSpec := { name := "fnExactPairing", fn := fun _ => fun
  | [d1, d2] => { results := [.lit (.bool false)], args := [d1, d2] }
  | _ => none }
def FnExactPairingWrongFalsely : Prop := fnExactPairingRow.holds Try.pinned (OpenSpec.ofChange fnExactPairingWrong)

/-- 'laws.FnExactPairsRight': WHATEVER THE INPUT: true; the input reads as it did. -/
def fnExactPairsRightSpec : ChangeSpec := { name := "fnExactPairsRight", fn := fun _ => fun
  | [d1, d2] => { results := [.lit (.bool true)], args := [d1, d2] }
  | _ => none }
def fnExactPairsRightRow : OpenClaim := { program := "ytmbjefdkjdemhaa", sum := "11f73faf0c7134dc57799ac2999083a4a7b194011af15df183ad50049840f52e", func := "loop.example/g00321/laws.FnExactPairsRight", spec := "fnExactPairsRight", apart := false }
def FnExactPairsRightSaid : Prop := fnExactPairsRightRow.holds Try.pinned (OpenSpec.ofChange fnExactPairsRightSpec)

/-- ITS FALSE NEIGHBOUR: 'it returns false'. Refute it at one input. -/
def fnExactPairsRightWrong : ChangeSpec := { name := "fnExactPairsRight", fn := fun _ => fun
  | [d1, d2] => { results := [.lit (.bool false)], args := [d1, d2] }
  | _ => none }
def FnExactPairsRightWrongFalsely : Prop := fnExactPairsRightRow.holds Try.pinned (OpenSpec.ofChange fnExactPairsRightWrong)

/-- 'laws.FnPoints': WHATEVER THE INPUT: true; the input reads as it did. -/
def fnPointsSpec : ChangeSpec := { name := "fnPoints", fn := fun _ => fun
  | [d] => { results := [.lit (.bool true)], args := [d] }
  | _ => none }
def fnPointsRow : OpenClaim := { program := "ytmbjefdkjdemhaa", sum := "11f73faf0c7134dc57799ac2999083a4a7b194011af15df183ad50049840f52e", func := "loop.example/g00321/laws.FnPoints", spec := "fnPoints", apart := false }
def FnPointsSaid : Prop := fnPointsRow.holds Try.pinned (OpenSpec.ofChange fnPointsSpec)

/-- ITS FALSE NEIGHBOUR: 'it returns false'. Refute it at one input. -/
def fnPointsWrong : ChangeSpec := { name := "fnPoints", fn := fun _ => fun
  | [d] => { results := [.lit (.bool false)], args := [d] }
  | _ => none }
def FnPointsWrongFalsely : Prop := fnPointsRow.holds Try.pinned (OpenSpec.ofChange fnPointsWrong)

/-- 'laws.FnPairsKnown': WHATEVER THE INPUT: true; the input reads as it did. -/
def fnPairsKnownSpec : ChangeSpec := { name := "fnPairsKnown", fn := fun _ => fun
  | [d] => { results := [.lit (.bool true)], args := [d] }
  | _ => none }
def fnPairsKnownRow : OpenClaim := { program := "ytmbjefdkjdemhaa", sum := "11f73faf0c7134dc57799ac2999083a4a7b194011af15df183ad50049840f52e", func := "loop.example/g00321/laws.FnPairsKnown", spec := "fnPairsKnown", apart := false }
def FnPairsKnownSaid : Prop := fnPairsKnownRow.holds Try.pinned (OpenSpec.ofChange fnPairsKnownSpec)

/-- ITS FALSE NEIGHBOUR: 'it returns false'. Refute it at one input. -/
def fnPairsKnownWrong : ChangeSpec := { name := "fnPairsKnown", fn := fun _ => fun
  | [d] => { results := [.lit (.bool false)], args := [d] }
  | _ => none }
def FnPairsKnownWrongFalsely : Prop := fnPairsKnownRow.holds Try.pinned (OpenSpec.ofChange fnPairsKnownWrong)

/- THE SECOND FORM. 'bulk': how many values and letters a reading holds, each counted each time it is reached (what is shared counts as often as it is met; a slice's spare places count too). A statement '..UptoSaid' is the law's where the arguments, and the package variables that the reading takes, are together of bulk at most 1048576: NARROWER than '..Said'. Prove '..Said' where nothing that the law and all that it calls make is longer than what came in: it says more and counts as full. Else prove '..UptoSaid'. A law counts once. -/
mutual
def uptoBulk {H : Type} : DataW H → Nat
  | .lit (.string bytes) => bytes.length + 1
  | .lit _ => 1
  | .nil => 1
  | .ptr d => uptoBulk d + 1
  | .slice elems spare => uptoBulkAll elems + uptoBulkAll spare + 1
  | .agg parts => uptoBulkAll parts + 1
  | .iface _ d => uptoBulk d + 1
  | .map entries => uptoBulkEntries entries + 1
  | .held _ => 1
def uptoBulkAll {H : Type} : List (DataW H) → Nat
  | [] => 0
  | d :: r => uptoBulk d + uptoBulkAll r
def uptoBulkEntries {H : Type} : List (Lit × DataW H) → Nat
  | [] => 0
  | x :: r => uptoBulkEntry x + uptoBulkEntries r
def uptoBulkEntry {H : Type} : Lit × DataW H → Nat
  | (.string bytes, d) => bytes.length + uptoBulk d + 1
  | (_, d) => uptoBulk d + 1
 end
def uptoSmall : (H : Type) → List (DataW H) → Bool := fun _ ds => decide (uptoBulkAll ds ≤ 1048576)
def OpenSpec.upto (s : _root_.Go.ChangeSpec) : _root_.Go.OpenSpec := { _root_.Go.OpenSpec.ofChange s with cond := some uptoSmall }

/-- 'laws.FnPairings', WHERE WHAT IT READS IS OF BULK AT MOST 1048576: true; the input reads as it did. -/
def fnPairingsUptoRow : OpenClaim := { program := "ytmbjefdkjdemhaa", sum := "11f73faf0c7134dc57799ac2999083a4a7b194011af15df183ad50049840f52e", func := "loop.example/g00321/laws.FnPairings", spec := "fnPairings", apart := false, narrowed := true }
def FnPairingsUptoSaid : Prop := fnPairingsUptoRow.holds Try.pinned (OpenSpec.upto fnPairingsSpec)

/-- 'laws.FnExactPairLine', WHERE WHAT IT READS IS OF BULK AT MOST 1048576: true; the input reads as it did. -/
def fnExactPairLineUptoRow : OpenClaim := { program := "ytmbjefdkjdemhaa", sum := "11f73faf0c7134dc57799ac2999083a4a7b194011af15df183ad50049840f52e", func := "loop.example/g00321/laws.FnExactPairLine", spec := "fnExactPairLine", apart := false, narrowed := true }
def FnExactPairLineUptoSaid : Prop := fnExactPairLineUptoRow.holds Try.pinned (OpenSpec.upto fnExactPairLineSpec)

/-- 'laws.FnExactPointTimes', WHERE WHAT IT READS IS OF BULK AT MOST 1048576: true; the input reads as it did. -/
def fnExactPointTimesUptoRow : OpenClaim := { program := "ytmbjefdkjdemhaa", sum := "11f73faf0c7134dc57799ac2999083a4a7b194011af15df183ad50049840f52e", func := "loop.example/g00321/laws.FnExactPointTimes", spec := "fnExactPointTimes", apart := false, narrowed := true }
def FnExactPointTimesUptoSaid : Prop := fnExactPointTimesUptoRow.holds Try.pinned (OpenSpec.upto fnExactPointTimesSpec)

/-- 'laws.FnGroup', WHERE WHAT IT READS IS OF BULK AT MOST 1048576: true; the input reads as it did. -/
def fnGroupUptoRow : OpenClaim := { program := "ytmbjefdkjdemhaa", sum := "11f73faf0c7134dc57799ac2999083a4a7b194011af15df183ad50049840f52e", func := "loop.example/g00321/laws.FnGroup", spec := "fnGroup", apart := false, narrowed := true }
def FnGroupUptoSaid : Prop := fnGroupUptoRow.holds Try.pinned (OpenSpec.upto fnGroupSpec)

/-- 'laws.FnExactKeyOf', WHERE WHAT IT READS IS OF BULK AT MOST 1048576: true; the input reads as it did. -/
def fnExactKeyOfUptoRow : OpenClaim := { program := "ytmbjefdkjdemhaa", sum := "11f73faf0c7134dc57799ac2999083a4a7b194011af15df183ad50049840f52e", func := "loop.example/g00321/laws.FnExactKeyOf", spec := "fnExactKeyOf", apart := false, narrowed := true }
def FnExactKeyOfUptoSaid : Prop := fnExactKeyOfUptoRow.holds Try.pinned (OpenSpec.upto fnExactKeyOfSpec)

/-- 'laws.FnExactSumPoints', WHERE WHAT IT READS IS OF BULK AT MOST 1048576: true; the input reads as it did. -/
def fnExactSumPointsUptoRow : OpenClaim := { program := "ytmbjefdkjdemhaa", sum := "11f73faf0c7134dc57799ac2999083a4a7b194011af15df183ad50049840f52e", func := "loop.example/g00321/laws.FnExactSumPoints", spec := "fnExactSumPoints", apart := false, narrowed := true }
def FnExactSumPointsUptoSaid : Prop := fnExactSumPointsUptoRow.holds Try.pinned (OpenSpec.upto fnExactSumPointsSpec)

/-- 'laws.FnExactMiller', WHERE WHAT IT READS IS OF BULK AT MOST 1048576: true; the input reads as it did. -/
def fnExactMillerUptoRow : OpenClaim := { program := "ytmbjefdkjdemhaa", sum := "11f73faf0c7134dc57799ac2999083a4a7b194011af15df183ad50049840f52e", func := "loop.example/g00321/laws.FnExactMiller", spec := "fnExactMiller", apart := false, narrowed := true }
def FnExactMillerUptoSaid : Prop := fnExactMillerUptoRow.holds Try.pinned (OpenSpec.upto fnExactMillerSpec)

/-- 'laws.FnExactPairing', WHERE WHAT IT READS IS OF BULK AT MOST 1048576: true; the input reads as it did. -/
def fnExactPairingUptoRow : OpenClaim := { program := "ytmbjefdkjdemhaa", sum := "11f73faf0c7134dc57799ac2999083a4a7b194011af15df183ad50049840f52e", func := "loop.example/g00321/laws.FnExactPairing", spec := "fnExactPairing", apart := false, narrowed := true }
def FnExactPairingUptoSaid : Prop := fnExactPairingUptoRow.holds Try.pinned (OpenSpec.upto fnExactPairingSpec)

/-- 'laws.FnExactPairsRight', WHERE WHAT IT READS IS OF BULK AT MOST 1048576: true; the input reads as it did. -/
def fnExactPairsRightUptoRow : OpenClaim := { program := "ytmbjefdkjdemhaa", sum := "11f73faf0c7134dc57799ac2999083a4a7b194011af15df183ad50049840f52e", func := "loop.example/g00321/laws.FnExactPairsRight", spec := "fnExactPairsRight", apart := false, narrowed := true }
def FnExactPairsRightUptoSaid : Prop := fnExactPairsRightUptoRow.holds Try.pinned (OpenSpec.upto fnExactPairsRightSpec)

/-- 'laws.FnPoints', WHERE WHAT IT READS IS OF BULK AT MOST 1048576: true; the input reads as it did. -/
def fnPointsUptoRow : OpenClaim := { program := "ytmbjefdkjdemhaa", sum := "11f73faf0c7134dc57799ac2999083a4a7b194011af15df183ad50049840f52e", func := "loop.example/g00321/laws.FnPoints", spec := "fnPoints", apart := false, narrowed := true }
def FnPointsUptoSaid : Prop := fnPointsUptoRow.holds Try.pinned (OpenSpec.upto fnPointsSpec)

/-- 'laws.FnPairsKnown', WHERE WHAT IT READS IS OF BULK AT MOST 1048576: true; the input reads as it did. -/
def fnPairsKnownUptoRow : OpenClaim := { program := "ytmbjefdkjdemhaa", sum := "11f73faf0c7134dc57799ac2999083a4a7b194011af15df183ad50049840f52e", func := "loop.example/g00321/laws.FnPairsKnown", spec := "fnPairsKnown", apart := false, narrowed := true }
def FnPairsKnownUptoSaid : Prop := fnPairsKnownUptoRow.holds Try.pinned (OpenSpec.upto fnPairsKnownSpec)

end Rows
end Go.Proofs.Ytmbjefdkjdemhaa
