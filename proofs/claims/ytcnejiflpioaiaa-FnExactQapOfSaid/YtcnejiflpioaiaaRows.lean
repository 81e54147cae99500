/-
  No cell of these rows narrows 'for every input' (looked for: loops, veiled, ifaces, maps, wideKeys, modest, calm, conditions, laid).
  DERIVED. THE GIVEN ROWS OF THIS SEAT. 12 by the template 'for every input the law returns true; each argument reads behind the call as it read before'; 0 by the template 'total and deterministic' (their statements: YtcnejiflpioaiaaTotals.lean).
  GIVEN WITH THE SEED: the statements are not yours to turn. If you find one false, say at which input.
  Laid BY PROGRAM, IN A SANDBOX (cutbox-rows.mjs): the forced cells as the released guide's own fill.sh prints them over the translation d72a7d6252b2b498… (all of the seat's roots in one cut). By AI agents, Wed Nov 11 2026. No macro, syntax, notation, axiom, sorry.
-/
import Derived.Test.YtcnejiflpioaiaaChecked
import GoSem.Claim
import GoSem.ClaimJoined
import GoSem.ClaimMapViews
import Derived.JoinedTies
import Derived.KernelRfl
namespace Go.Proofs.Ytcnejiflpioaiaa
/- THE CELL 'sum', in the pinned program and in every row, IS THE sha256 OF THE DUMP (.gsa) THAT YtcnejiflpioaiaaProg.lean LOADS. Nothing in Lean hashes anything: it is a label: what it is worth is what the hold of that sum in a sandbox is worth. -/
noncomputable def Try.pinned : Pinned := { name := "ytcnejiflpioaiaa", sum := "d72a7d6252b2b4984d5983c0d0a5815676a13a23d9911fb06098e164504a14a8", checked := Try.checked }
namespace Rows
def none {H : Type} : Left H := { results := [], args := [] }

/-- 'laws.FnExactPolyAt': WHATEVER THE INPUT: true; the input reads as it did. -/
def fnExactPolyAtSpec : ChangeSpec := { name := "fnExactPolyAt", fn := fun _ => fun
  | [d1, d2] => { results := [.lit (.bool true)], args := [d1, d2] }
  | _ => none }
def fnExactPolyAtRow : OpenClaim := { program := "ytcnejiflpioaiaa", sum := "d72a7d6252b2b4984d5983c0d0a5815676a13a23d9911fb06098e164504a14a8", func := "loop.example/g00321/laws.FnExactPolyAt", spec := "fnExactPolyAt", apart := false }
def FnExactPolyAtSaid : Prop := fnExactPolyAtRow.holds Try.pinned (OpenSpec.ofChange fnExactPolyAtSpec)

/-- ITS FALSE NEIGHBOUR: 'it returns false'. Refute it at one input. -/
def fnExactPolyAtWrong : ChangeSpec := { name := "fnExactPolyAt", fn := fun _ => fun
  | [d1, d2] => { results := [.lit (.bool false)], args := [d1, d2] }
  | _ => none }
def FnExactPolyAtWrongFalsely : Prop := fnExactPolyAtRow.holds Try.pinned (OpenSpec.ofChange fnExactPolyAtWrong)

/-- 'laws.FnExactPolyTrim': WHATEVER THE INPUT: true; the input reads as it did. -/
def fnExactPolyTrimSpec : ChangeSpec := { name := "fnExactPolyTrim", fn := fun _ => fun
  | [d] => { results := [.lit (.bool true)], args := [d] }
  | _ => none }
def fnExactPolyTrimRow : OpenClaim := { program := "ytcnejiflpioaiaa", sum := "d72a7d6252b2b4984d5983c0d0a5815676a13a23d9911fb06098e164504a14a8", func := "loop.example/g00321/laws.FnExactPolyTrim", spec := "fnExactPolyTrim", apart := false }
def FnExactPolyTrimSaid : Prop := fnExactPolyTrimRow.holds Try.pinned (OpenSpec.ofChange fnExactPolyTrimSpec)

/-- ITS FALSE NEIGHBOUR: 'it returns false'. Refute it at one input. -/
def fnExactPolyTrimWrong : ChangeSpec := { name := "fnExactPolyTrim", fn := fun _ => fun
  | [d] => { results := [.lit (.bool false)], args := [d] }
  | _ => none }
def FnExactPolyTrimWrongFalsely : Prop := fnExactPolyTrimRow.holds Try.pinned (OpenSpec.ofChange fnExactPolyTrimWrong)

/-- 'laws.FnQaps': WHATEVER THE INPUT: true; the input reads as it did. -/
def fnQapsSpec : ChangeSpec := { name := "fnQaps", fn := fun _ => fun
  | [d] => { results := [.lit (.bool true)], args := [d] }
  | _ => none }
def fnQapsRow : OpenClaim := { program := "ytcnejiflpioaiaa", sum := "d72a7d6252b2b4984d5983c0d0a5815676a13a23d9911fb06098e164504a14a8", func := "loop.example/g00321/laws.FnQaps", spec := "fnQaps", apart := false }
def FnQapsSaid : Prop := fnQapsRow.holds Try.pinned (OpenSpec.ofChange fnQapsSpec)

/-- ITS FALSE NEIGHBOUR: 'it returns false'. Refute it at one input. -/
def fnQapsWrong : ChangeSpec := { name := "fnQaps", fn := fun _ => fun
  | [d] => { results := [.lit (.bool false)], args := [d] }
  | _ => none }
def FnQapsWrongFalsely : Prop := fnQapsRow.holds Try.pinned (OpenSpec.ofChange fnQapsWrong)

/-- 'laws.FnExactPolyAdd': WHATEVER THE INPUT: true; the input reads as it did. -/
def fnExactPolyAddSpec : ChangeSpec := { name := "fnExactPolyAdd", fn := fun _ => fun
  | [d1, d2] => { results := [.lit (.bool true)], args := [d1, d2] }
  | _ => none }
def fnExactPolyAddRow : OpenClaim := { program := "ytcnejiflpioaiaa", sum := "d72a7d6252b2b4984d5983c0d0a5815676a13a23d9911fb06098e164504a14a8", func := "loop.example/g00321/laws.FnExactPolyAdd", spec := "fnExactPolyAdd", apart := false }
def FnExactPolyAddSaid : Prop := fnExactPolyAddRow.holds Try.pinned (OpenSpec.ofChange fnExactPolyAddSpec)

/-- ITS FALSE NEIGHBOUR: 'it returns false'. Refute it at one input. -/
def fnExactPolyAddWrong : ChangeSpec := { name := "fnExactPolyAdd", fn := fun _ => fun
  | [d1, d2] => { results := [.lit (.bool false)], args := [d1, d2] }
  | _ => none }
def FnExactPolyAddWrongFalsely : Prop := fnExactPolyAddRow.holds Try.pinned (OpenSpec.ofChange fnExactPolyAddWrong)

/-- 'laws.FnExactPolyMul': WHATEVER THE INPUT: true; the input reads as it did. -/
def fnExactPolyMulSpec : ChangeSpec := { name := "fnExactPolyMul", fn := fun _ => fun
  | [d1, d2] => { results := [.lit (.bool true)], args := [d1, d2] }
  | _ => none }
def fnExactPolyMulRow : OpenClaim := { program := "ytcnejiflpioaiaa", sum := "d72a7d6252b2b4984d5983c0d0a5815676a13a23d9911fb06098e164504a14a8", func := "loop.example/g00321/laws.FnExactPolyMul", spec := "fnExactPolyMul", apart := false }
def FnExactPolyMulSaid : Prop := fnExactPolyMulRow.holds Try.pinned (OpenSpec.ofChange fnExactPolyMulSpec)

/-- ITS FALSE NEIGHBOUR: 'it returns false'. Refute it at one input. -/
def fnExactPolyMulWrong : ChangeSpec := { name := "fnExactPolyMul", fn := fun _ => fun
  | [d1, d2] => { results := [.lit (.bool false)], args := [d1, d2] }
  | _ => none }
def FnExactPolyMulWrongFalsely : Prop := fnExactPolyMulRow.holds Try.pinned (OpenSpec.ofChange fnExactPolyMulWrong)

/-- 'laws.FnExactPolyZero': WHATEVER THE INPUT: true; the input reads as it did. -/
def fnExactPolyZeroSpec : ChangeSpec := { name := "fnExactPolyZero", fn := fun _ => fun
  | [d] => { results := [.lit (.bool true)], args := [d] }
  | _ => none }
def fnExactPolyZeroRow : OpenClaim := { program := "ytcnejiflpioaiaa", sum := "d72a7d6252b2b4984d5983c0d0a5815676a13a23d9911fb06098e164504a14a8", func := "loop.example/g00321/laws.FnExactPolyZero", spec := "fnExactPolyZero", apart := false }
def FnExactPolyZeroSaid : Prop := fnExactPolyZeroRow.holds Try.pinned (OpenSpec.ofChange fnExactPolyZeroSpec)

/-- ITS FALSE NEIGHBOUR: 'it returns false'. Refute it at one input. -/
def fnExactPolyZeroWrong : ChangeSpec := { name := "fnExactPolyZero", fn := fun _ => fun
  | [d] => { results := [.lit (.bool false)], args := [d] }
  | _ => none }
def FnExactPolyZeroWrongFalsely : Prop := fnExactPolyZeroRow.holds Try.pinned (OpenSpec.ofChange fnExactPolyZeroWrong)

/-- 'laws.FnExactPolyDivide': WHATEVER THE INPUT: true; the input reads as it did. -/
def fnExactPolyDivideSpec : ChangeSpec := { name := "fnExactPolyDivide", fn := fun _ => fun
  | [d1, d2] => { results := [.lit (.bool true)], args := [d1, d2] }
  | _ => none }
def fnExactPolyDivideRow : OpenClaim := { program := "ytcnejiflpioaiaa", sum := "d72a7d6252b2b4984d5983c0d0a5815676a13a23d9911fb06098e164504a14a8", func := "loop.example/g00321/laws.FnExactPolyDivide", spec := "fnExactPolyDivide", apart := false }
def FnExactPolyDivideSaid : Prop := fnExactPolyDivideRow.holds Try.pinned (OpenSpec.ofChange fnExactPolyDivideSpec)

/-- ITS FALSE NEIGHBOUR: 'it returns false'. Refute it at one input. -/
def fnExactPolyDivideWrong : ChangeSpec := { name := "fnExactPolyDivide", fn := fun _ => fun
  | [d1, d2] => { results := [.lit (.bool false)], args := [d1, d2] }
  | _ => none }
def FnExactPolyDivideWrongFalsely : Prop := fnExactPolyDivideRow.holds Try.pinned (OpenSpec.ofChange fnExactPolyDivideWrong)

/-- 'laws.FnExactMixed': WHATEVER THE INPUT: true; the input reads as it did. -/
def fnExactMixedSpec : ChangeSpec := { name := "fnExactMixed", fn := fun _ => fun
  | [d1, d2] => { results := [.lit (.bool true)], args := [d1, d2] }
  | _ => none }
def fnExactMixedRow : OpenClaim := { program := "ytcnejiflpioaiaa", sum := "d72a7d6252b2b4984d5983c0d0a5815676a13a23d9911fb06098e164504a14a8", func := "loop.example/g00321/laws.FnExactMixed", spec := "fnExactMixed", apart := false }
def FnExactMixedSaid : Prop := fnExactMixedRow.holds Try.pinned (OpenSpec.ofChange fnExactMixedSpec)

/-- ITS FALSE NEIGHBOUR: 'it returns false'. Refute it at one input. -/
def fnExactMixedWrong : ChangeSpec := { name := "fnExactMixed", fn := fun _ => fun
  | [d1, d2] => { results := [.lit (.bool false)], args := [d1, d2] }
  | _ => none }
def FnExactMixedWrongFalsely : Prop := fnExactMixedRow.holds Try.pinned (OpenSpec.ofChange fnExactMixedWrong)

/-- 'laws.FnPolys': WHATEVER THE INPUT: true; the input reads as it did. -/
def fnPolysSpec : ChangeSpec := { name := "fnPolys", fn := fun _ => fun
  | [d] => { results := [.lit (.bool true)], args := [d] }
  | _ => none }
def fnPolysRow : OpenClaim := { program := "ytcnejiflpioaiaa", sum := "d72a7d6252b2b4984d5983c0d0a5815676a13a23d9911fb06098e164504a14a8", func := "loop.example/g00321/laws.FnPolys", spec := "fnPolys", apart := false }
def FnPolysSaid : Prop := fnPolysRow.holds Try.pinned (OpenSpec.ofChange fnPolysSpec)

/-- ITS FALSE NEIGHBOUR: 'it returns false'. Refute it at one input. -/
def fnPolysWrong : ChangeSpec := { name := "fnPolys", fn := fun _ => fun
  | [d] => { results := [.lit (.bool false)], args := [d] }
  | _ => none }
def FnPolysWrongFalsely : Prop := fnPolysRow.holds Try.pinned (OpenSpec.ofChange fnPolysWrong)

/-- 'laws.FnExactPolyThrough': WHATEVER THE INPUT: true; the input reads as it did. -/
def fnExactPolyThroughSpec : ChangeSpec := { name := "fnExactPolyThrough", fn := fun _ => fun
  | [d] => { results := [.lit (.bool true)], args := [d] }
  | _ => none }
def fnExactPolyThroughRow : OpenClaim := { program := "ytcnejiflpioaiaa", sum := "d72a7d6252b2b4984d5983c0d0a5815676a13a23d9911fb06098e164504a14a8", func := "loop.example/g00321/laws.FnExactPolyThrough", spec := "fnExactPolyThrough", apart := false }
def FnExactPolyThroughSaid : Prop := fnExactPolyThroughRow.holds Try.pinned (OpenSpec.ofChange fnExactPolyThroughSpec)

/-- ITS FALSE NEIGHBOUR: 'it returns false'. Refute it at one input. -/
def fnExactPolyThroughWrong : ChangeSpec := { name := "fnExactPolyThrough", fn := fun _ => fun
  | [d] => { results := [.lit (.bool false)], args := [d] }
  | _ => none }
def FnExactPolyThroughWrongFalsely : Prop := fnExactPolyThroughRow.holds Try.pinned (OpenSpec.ofChange fnExactPolyThroughWrong)

/-- 'laws.FnPolysDivided': WHATEVER THE INPUT: true; the input reads as it did. -/
def fnPolysDividedSpec : ChangeSpec := { name := "fnPolysDivided", fn := fun _ => fun
  | [d] => { results := [.lit (.bool true)], args := [d] }
  | _ => none }
def fnPolysDividedRow : OpenClaim := { program := "ytcnejiflpioaiaa", sum := "d72a7d6252b2b4984d5983c0d0a5815676a13a23d9911fb06098e164504a14a8", func := "loop.example/g00321/laws.FnPolysDivided", spec := "fnPolysDivided", apart := false }
def FnPolysDividedSaid : Prop := fnPolysDividedRow.holds Try.pinned (OpenSpec.ofChange fnPolysDividedSpec)

/-- ITS FALSE NEIGHBOUR: 'it returns false'. Refute it at one input. -/
def fnPolysDividedWrong : ChangeSpec := { name := "fnPolysDivided", fn := fun _ => fun
  | [d] => { results := [.lit (.bool false)], args := [d] }
  | _ => none }
def FnPolysDividedWrongFalsely : Prop := fnPolysDividedRow.holds Try.pinned (OpenSpec.ofChange fnPolysDividedWrong)

/-- 'laws.FnExactQapOf': WHATEVER THE INPUT: true; the input reads as it did. -/
def fnExactQapOfSpec : ChangeSpec := { name := "fnExactQapOf", fn := fun _ => fun
  | [d] => { results := [.lit (.bool true)], args := [d] }
  | _ => none }
def fnExactQapOfRow : OpenClaim := { program := "ytcnejiflpioaiaa", sum := "d72a7d6252b2b4984d5983c0d0a5815676a13a23d9911fb06098e164504a14a8", func := "loop.example/g00321/laws.FnExactQapOf", spec := "fnExactQapOf", apart := false }
def FnExactQapOfSaid : Prop := fnExactQapOfRow.holds Try.pinned (OpenSpec.ofChange fnExactQapOfSpec)

/-- ITS FALSE NEIGHBOUR: 'it returns false'. Refute it at one input. -/
def fnExactQapOfWrong : ChangeSpec := { name := "fnExactQapOf", fn := fun _ => fun
  | [d] => { results := [.lit (.bool false)], args := [d] }
  | _ => none }
def FnExactQapOfWrongFalsely : Prop := fnExactQapOfRow.holds Try.pinned (OpenSpec.ofChange fnExactQapOfWrong)

/- THE SECOND FORM. 'bulk': how many values and letters a reading holds, each counted each time it is reached (what is shared counts as often as it is met; a slice's spare places count too). A statement '..UptoSaid' is the law's where the arguments, and the package variables that the reading takes, are together of bulk at most 1048576: NARROWER than '..Said'. Prove '..Said' where nothing that the law and all that it calls make is longer than what came in: it says more and counts as full. Else prove '..UptoSaid'. A law counts once. -/
mutual
def uptoBulk {H : Type} : DataW H → Nat
  | .lit (.string bytes) => bytes.length + 1
  | .lit _ => 1
  | .nil => 1
  | .ptr d => uptoBulk d + 1
  | .slice elems spare => uptoBulkAll elems + uptoBulkAll spare + 1
  | .agg parts => uptoBulkAll parts + 1
  | .iface _ d => uptoBulk d + 1
  | .map entries => uptoBulkEntries entries + 1
  | .held _ => 1
def uptoBulkAll {H : Type} : List (DataW H) → Nat
  | [] => 0
  | d :: r => uptoBulk d + uptoBulkAll r
def uptoBulkEntries {H : Type} : List (Lit × DataW H) → Nat
  | [] => 0
  | x :: r => uptoBulkEntry x + uptoBulkEntries r
def uptoBulkEntry {H : Type} : Lit × DataW H → Nat
  | (.string bytes, d) => bytes.length + uptoBulk d + 1
  | (_, d) => uptoBulk d + 1
 end
def uptoSmall : (H : Type) → List (DataW H) → Bool := fun _ ds => decide (uptoBulkAll ds ≤ 1048576)
def OpenSpec.upto (s : _root_.Go.ChangeSpec) : _root_.Go.OpenSpec := { _root_.Go.OpenSpec.ofChange s with cond := some uptoSmall }

/-- 'laws.FnExactPolyAt', WHERE WHAT IT READS IS OF BULK AT MOST 1048576: true; the input reads as it did. -/
def fnExactPolyAtUptoRow : OpenClaim := { program := "ytcnejiflpioaiaa", sum := "d72a7d6252b2b4984d5983c0d0a5815676a13a23d9911fb06098e164504a14a8", func := "loop.example/g00321/laws.FnExactPolyAt", spec := "fnExactPolyAt", apart := false, narrowed := true }
def FnExactPolyAtUptoSaid : Prop := fnExactPolyAtUptoRow.holds Try.pinned (OpenSpec.upto fnExactPolyAtSpec)

/-- 'laws.FnExactPolyTrim', WHERE WHAT IT READS IS OF BULK AT MOST 1048576: true; the input reads as it did. -/
def fnExactPolyTrimUptoRow : OpenClaim := { program := "ytcnejiflpioaiaa", sum := "d72a7d6252b2b4984d5983c0d0a5815676a13a23d9911fb06098e164504a14a8", func := "loop.example/g00321/laws.FnExactPolyTrim", spec := "fnExactPolyTrim", apart := false, narrowed := true }
def FnExactPolyTrimUptoSaid : Prop := fnExactPolyTrimUptoRow.holds Try.pinned (OpenSpec.upto fnExactPolyTrimSpec)

/-- 'laws.FnQaps', WHERE WHAT IT READS IS OF BULK AT MOST 1048576: true; the input reads as it did. -/
def fnQapsUptoRow : OpenClaim := { program := "ytcnejiflpioaiaa", sum := "d72a7d6252b2b4984d5983c0d0a5815676a13a23d9911fb06098e164504a14a8", func := "loop.example/g00321/laws.FnQaps", spec := "fnQaps", apart := false, narrowed := true }
def FnQapsUptoSaid : Prop := fnQapsUptoRow.holds Try.pinned (OpenSpec.upto fnQapsSpec)

/-- 'laws.FnExactPolyAdd', WHERE WHAT IT READS IS OF BULK AT MOST 1048576: true; the input reads as it did. -/
def fnExactPolyAddUptoRow : OpenClaim := { program := "ytcnejiflpioaiaa", sum := "d72a7d6252b2b4984d5983c0d0a5815676a13a23d9911fb06098e164504a14a8", func := "loop.example/g00321/laws.FnExactPolyAdd", spec := "fnExactPolyAdd", apart := false, narrowed := true }
def FnExactPolyAddUptoSaid : Prop := fnExactPolyAddUptoRow.holds Try.pinned (OpenSpec.upto fnExactPolyAddSpec)

/-- 'laws.FnExactPolyMul', WHERE WHAT IT READS IS OF BULK AT MOST 1048576: true; the input reads as it did. -/
def fnExactPolyMulUptoRow : OpenClaim := { program := "ytcnejiflpioaiaa", sum := "d72a7d6252b2b4984d5983c0d0a5815676a13a23d9911fb06098e164504a14a8", func := "loop.example/g00321/laws.FnExactPolyMul", spec := "fnExactPolyMul", apart := false, narrowed := true }
def FnExactPolyMulUptoSaid : Prop := fnExactPolyMulUptoRow.holds Try.pinned (OpenSpec.upto fnExactPolyMulSpec)

/-- 'laws.FnExactPolyZero', WHERE WHAT IT READS IS OF BULK AT MOST 1048576: true; the input reads as it did. -/
def fnExactPolyZeroUptoRow : OpenClaim := { program := "ytcnejiflpioaiaa", sum := "d72a7d6252b2b4984d5983c0d0a5815676a13a23d9911fb06098e164504a14a8", func := "loop.example/g00321/laws.FnExactPolyZero", spec := "fnExactPolyZero", apart := false, narrowed := true }
def FnExactPolyZeroUptoSaid : Prop := fnExactPolyZeroUptoRow.holds Try.pinned (OpenSpec.upto fnExactPolyZeroSpec)

/-- 'laws.FnExactPolyDivide', WHERE WHAT IT READS IS OF BULK AT MOST 1048576: true; the input reads as it did. -/
def fnExactPolyDivideUptoRow : OpenClaim := { program := "ytcnejiflpioaiaa", sum := "d72a7d6252b2b4984d5983c0d0a5815676a13a23d9911fb06098e164504a14a8", func := "loop.example/g00321/laws.FnExactPolyDivide", spec := "fnExactPolyDivide", apart := false, narrowed := true }
def FnExactPolyDivideUptoSaid : Prop := fnExactPolyDivideUptoRow.holds Try.pinned (OpenSpec.upto fnExactPolyDivideSpec)

/-- 'laws.FnExactMixed', WHERE WHAT IT READS IS OF BULK AT MOST 1048576: true; the input reads as it did. -/
def fnExactMixedUptoRow : OpenClaim := { program := "ytcnejiflpioaiaa", sum := "d72a7d6252b2b4984d5983c0d0a5815676a13a23d9911fb06098e164504a14a8", func := "loop.example/g00321/laws.FnExactMixed", spec := "fnExactMixed", apart := false, narrowed := true }
def FnExactMixedUptoSaid : Prop := fnExactMixedUptoRow.holds Try.pinned (OpenSpec.upto fnExactMixedSpec)

/-- 'laws.FnPolys', WHERE WHAT IT READS IS OF BULK AT MOST 1048576: true; the input reads as it did. -/
def fnPolysUptoRow : OpenClaim := { program := "ytcnejiflpioaiaa", sum := "d72a7d6252b2b4984d5983c0d0a5815676a13a23d9911fb06098e164504a14a8", func := "loop.example/g00321/laws.FnPolys", spec := "fnPolys", apart := false, narrowed := true }
def FnPolysUptoSaid : Prop := fnPolysUptoRow.holds Try.pinned (OpenSpec.upto fnPolysSpec)

/-- 'laws.FnExactPolyThrough', WHERE WHAT IT READS IS OF BULK AT MOST 1048576: true; the input reads as it did. -/
def fnExactPolyThroughUptoRow : OpenClaim := { program := "ytcnejiflpioaiaa", sum := "d72a7d6252b2b4984d5983c0d0a5815676a13a23d9911fb06098e164504a14a8", func := "loop.example/g00321/laws.FnExactPolyThrough", spec := "fnExactPolyThrough", apart := false, narrowed := true }
def FnExactPolyThroughUptoSaid : Prop := fnExactPolyThroughUptoRow.holds Try.pinned (OpenSpec.upto fnExactPolyThroughSpec)

/-- 'laws.FnPolysDivided', WHERE WHAT IT READS IS OF BULK AT MOST 1048576: true; the input reads as it did. -/
def fnPolysDividedUptoRow : OpenClaim := { program := "ytcnejiflpioaiaa", sum := "d72a7d6252b2b4984d5983c0d0a5815676a13a23d9911fb06098e164504a14a8", func := "loop.example/g00321/laws.FnPolysDivided", spec := "fnPolysDivided", apart := false, narrowed := true }
def FnPolysDividedUptoSaid : Prop := fnPolysDividedUptoRow.holds Try.pinned (OpenSpec.upto fnPolysDividedSpec)

/-- 'laws.FnExactQapOf', WHERE WHAT IT READS IS OF BULK AT MOST 1048576: true; the input reads as it did. -/
def fnExactQapOfUptoRow : OpenClaim := { program := "ytcnejiflpioaiaa", sum := "d72a7d6252b2b4984d5983c0d0a5815676a13a23d9911fb06098e164504a14a8", func := "loop.example/g00321/laws.FnExactQapOf", spec := "fnExactQapOf", apart := false, narrowed := true }
def FnExactQapOfUptoSaid : Prop := fnExactQapOfUptoRow.holds Try.pinned (OpenSpec.upto fnExactQapOfSpec)

end Rows
end Go.Proofs.Ytcnejiflpioaiaa
