/-
  No cell of these rows narrows 'for every input' (looked for: loops, veiled, ifaces, maps, wideKeys, modest, calm, conditions, laid).
  DERIVED. THE GIVEN ROWS OF THIS SEAT. 5 by the template 'for every input the law returns true; each argument reads behind the call as it read before'; 0 by the template 'total and deterministic' (their statements: YtogcobdgnkiopaaTotals.lean).
  GIVEN WITH THE SEED: the statements are not yours to turn. If you find one false, say at which input.
  Laid BY PROGRAM, IN A SANDBOX (cutbox-rows.mjs): the forced cells as the released guide's own fill.sh prints them over the translation 3201e101262cf9d3… (all of the seat's roots in one cut). By AI agents, Wed Nov 11 2026. No macro, syntax, notation, axiom, sorry.
-/
import Derived.Test.YtogcobdgnkiopaaChecked
import GoSem.Claim
import GoSem.ClaimJoined
import GoSem.ClaimMapViews
import Derived.JoinedTies
import Derived.KernelRfl
namespace Go.Proofs.Ytogcobdgnkiopaa
/- THE CELL 'sum', in the pinned program and in every row, IS THE sha256 OF THE DUMP (.gsa) THAT YtogcobdgnkiopaaProg.lean LOADS. Nothing in Lean hashes anything: it is a label: what it is worth is what the hold of that sum in a sandbox is worth. -/
noncomputable def Try.pinned : Pinned := { name := "ytogcobdgnkiopaa", sum := "3201e101262cf9d368c1d64b808a2d011b8972d54d1abe7a3461ad2586297c82", checked := Try.checked }
namespace Rows
def none {H : Type} : Left H := { results := [], args := [] }

/-- 'laws.FnExactCommitteeOk': WHATEVER THE INPUT: true; the input reads as it did. -/
def fnExactCommitteeOkSpec : ChangeSpec := { name := "fnExactCommitteeOk", fn := fun _ => fun
  | [d] => { results := [.lit (.bool true)], args := [d] }
  | _ => none }
def fnExactCommitteeOkRow : OpenClaim := { program := "ytogcobdgnkiopaa", sum := "3201e101262cf9d368c1d64b808a2d011b8972d54d1abe7a3461ad2586297c82", func := "loop.example/g00321/laws.FnExactCommitteeOk", spec := "fnExactCommitteeOk", apart := false }
def FnExactCommitteeOkSaid : Prop := fnExactCommitteeOkRow.holds Try.pinned (OpenSpec.ofChange fnExactCommitteeOkSpec)

/-- ITS FALSE NEIGHBOUR: 'it returns false'. Refute it at one input. -/
def fnExactCommitteeOkWrong : ChangeSpec := { name := "fnExactCommitteeOk", fn := fun _ => fun
  | [d] => { results := [.lit (.bool false)], args := [d] }
  | _ => none }
def FnExactCommitteeOkWrongFalsely : Prop := fnExactCommitteeOkRow.holds Try.pinned (OpenSpec.ofChange fnExactCommitteeOkWrong)

/-- 'laws.FnExactCommitteeOf': WHATEVER THE INPUT: true; the input reads as it did. -/
def fnExactCommitteeOfSpec : ChangeSpec := { name := "fnExactCommitteeOf", fn := fun _ => fun
  | [d] => { results := [.lit (.bool true)], args := [d] }
  | _ => none }
def fnExactCommitteeOfRow : OpenClaim := { program := "ytogcobdgnkiopaa", sum := "3201e101262cf9d368c1d64b808a2d011b8972d54d1abe7a3461ad2586297c82", func := "loop.example/g00321/laws.FnExactCommitteeOf", spec := "fnExactCommitteeOf", apart := false }
def FnExactCommitteeOfSaid : Prop := fnExactCommitteeOfRow.holds Try.pinned (OpenSpec.ofChange fnExactCommitteeOfSpec)

/-- ITS FALSE NEIGHBOUR: 'it returns false'. Refute it at one input. -/
def fnExactCommitteeOfWrong : ChangeSpec := { name := "fnExactCommitteeOf", fn := fun _ => fun
  | [d] => { results := [.lit (.bool false)], args := [d] }
  | _ => none }
def FnExactCommitteeOfWrongFalsely : Prop := fnExactCommitteeOfRow.holds Try.pinned (OpenSpec.ofChange fnExactCommitteeOfWrong)

/-- 'laws.FnExactJoined': WHATEVER THE INPUT: true; the input reads as it did. -/
def fnExactJoinedSpec : ChangeSpec := { name := "fnExactJoined", fn := fun _ => fun
  | [d1, d2] => { results := [.lit (.bool true)], args := [d1, d2] }
  | _ => none }
def fnExactJoinedRow : OpenClaim := { program := "ytogcobdgnkiopaa", sum := "3201e101262cf9d368c1d64b808a2d011b8972d54d1abe7a3461ad2586297c82", func := "loop.example/g00321/laws.FnExactJoined", spec := "fnExactJoined", apart := false }
def FnExactJoinedSaid : Prop := fnExactJoinedRow.holds Try.pinned (OpenSpec.ofChange fnExactJoinedSpec)

/-- ITS FALSE NEIGHBOUR: 'it returns false'. Refute it at one input. -/
def fnExactJoinedWrong : ChangeSpec := { name := "fnExactJoined", fn := fun _ => fun
  | [d1, d2] => { results := [.lit (.bool false)], args := [d1, d2] }
  | _ => none }
def FnExactJoinedWrongFalsely : Prop := fnExactJoinedRow.holds Try.pinned (OpenSpec.ofChange fnExactJoinedWrong)

/-- 'laws.FnExactCommitteeText': WHATEVER THE INPUT: true; the input reads as it did. -/
def fnExactCommitteeTextSpec : ChangeSpec := { name := "fnExactCommitteeText", fn := fun _ => fun
  | [d] => { results := [.lit (.bool true)], args := [d] }
  | _ => none }
def fnExactCommitteeTextRow : OpenClaim := { program := "ytogcobdgnkiopaa", sum := "3201e101262cf9d368c1d64b808a2d011b8972d54d1abe7a3461ad2586297c82", func := "loop.example/g00321/laws.FnExactCommitteeText", spec := "fnExactCommitteeText", apart := false }
def FnExactCommitteeTextSaid : Prop := fnExactCommitteeTextRow.holds Try.pinned (OpenSpec.ofChange fnExactCommitteeTextSpec)

/-- ITS FALSE NEIGHBOUR: 'it returns false'. Refute it at one input. -/
def fnExactCommitteeTextWrong : ChangeSpec := { name := "fnExactCommitteeText", fn := fun _ => fun
  | [d] => { results := [.lit (.bool false)], args := [d] }
  | _ => none }
def FnExactCommitteeTextWrongFalsely : Prop := fnExactCommitteeTextRow.holds Try.pinned (OpenSpec.ofChange fnExactCommitteeTextWrong)

/-- 'laws.FnExactReadCommittee': WHATEVER THE INPUT: true; the input reads as it did. -/
def fnExactReadCommitteeSpec : ChangeSpec := { name := "fnExactReadCommittee", fn := fun _ => fun
  | [d] => { results := [.lit (.bool true)], args := [d] }
  | _ => none }
def fnExactReadCommitteeRow : OpenClaim := { program := "ytogcobdgnkiopaa", sum := "3201e101262cf9d368c1d64b808a2d011b8972d54d1abe7a3461ad2586297c82", func := "loop.example/g00321/laws.FnExactReadCommittee", spec := "fnExactReadCommittee", apart := false }
def FnExactReadCommitteeSaid : Prop := fnExactReadCommitteeRow.holds Try.pinned (OpenSpec.ofChange fnExactReadCommitteeSpec)

/-- ITS FALSE NEIGHBOUR: 'it returns false'. Refute it at one input. -/
def fnExactReadCommitteeWrong : ChangeSpec := { name := "fnExactReadCommittee", fn := fun _ => fun
  | [d] => { results := [.lit (.bool false)], args := [d] }
  | _ => none }
def FnExactReadCommitteeWrongFalsely : Prop := fnExactReadCommitteeRow.holds Try.pinned (OpenSpec.ofChange fnExactReadCommitteeWrong)

/- THE SECOND FORM. 'bulk': how many values and letters a reading holds, each counted each time it is reached (what is shared counts as often as it is met; a slice's spare places count too). A statement '..UptoSaid' is the law's where the arguments, and the package variables that the reading takes, are together of bulk at most 1048576: NARROWER than '..Said'. Prove '..Said' where nothing that the law and all that it calls make is longer than what came in: it says more and counts as full. Else prove '..UptoSaid'. A law counts once. -/
mutual
def uptoBulk {H : Type} : DataW H → Nat
  | .lit (.string bytes) => bytes.length + 1
  | .lit _ => 1
  | .nil => 1
  | .ptr d => uptoBulk d + 1
  | .slice elems spare => uptoBulkAll elems + uptoBulkAll spare + 1
  | .agg parts => uptoBulkAll parts + 1
  | .iface _ d => uptoBulk d + 1
  | .map entries => uptoBulkEntries entries + 1
  | .held _ => 1
def uptoBulkAll {H : Type} : List (DataW H) → Nat
  | [] => 0
  | d :: r => uptoBulk d + uptoBulkAll r
def uptoBulkEntries {H : Type} : List (Lit × DataW H) → Nat
  | [] => 0
  | x :: r => uptoBulkEntry x + uptoBulkEntries r
def uptoBulkEntry {H : Type} : Lit × DataW H → Nat
  | (.string bytes, d) => bytes.length + uptoBulk d + 1
  | (_, d) => uptoBulk d + 1
 end
def uptoSmall : (H : Type) → List (DataW H) → Bool := fun _ ds => decide (uptoBulkAll ds ≤ 1048576)
def OpenSpec.upto (s : _root_.Go.ChangeSpec) : _root_.Go.OpenSpec := { _root_.Go.OpenSpec.ofChange s with cond := some uptoSmall }

/-- 'laws.FnExactCommitteeOk', WHERE WHAT IT READS IS OF BULK AT MOST 1048576: true; the input reads as it did. -/
def fnExactCommitteeOkUptoRow : OpenClaim := { program := "ytogcobdgnkiopaa", sum := "3201e101262cf9d368c1d64b808a2d011b8972d54d1abe7a3461ad2586297c82", func := "loop.example/g00321/laws.FnExactCommitteeOk", spec := "fnExactCommitteeOk", apart := false, narrowed := true }
def FnExactCommitteeOkUptoSaid : Prop := fnExactCommitteeOkUptoRow.holds Try.pinned (OpenSpec.upto fnExactCommitteeOkSpec)

/-- 'laws.FnExactCommitteeOf', WHERE WHAT IT READS IS OF BULK AT MOST 1048576: true; the input reads as it did. -/
def fnExactCommitteeOfUptoRow : OpenClaim := { program := "ytogcobdgnkiopaa", sum := "3201e101262cf9d368c1d64b808a2d011b8972d54d1abe7a3461ad2586297c82", func := "loop.example/g00321/laws.FnExactCommitteeOf", spec := "fnExactCommitteeOf", apart := false, narrowed := true }
def FnExactCommitteeOfUptoSaid : Prop := fnExactCommitteeOfUptoRow.holds Try.pinned (OpenSpec.upto fnExactCommitteeOfSpec)

/-- 'laws.FnExactJoined', WHERE WHAT IT READS IS OF BULK AT MOST 1048576: true; the input reads as it did. -/
def fnExactJoinedUptoRow : OpenClaim := { program := "ytogcobdgnkiopaa", sum := "3201e101262cf9d368c1d64b808a2d011b8972d54d1abe7a3461ad2586297c82", func := "loop.example/g00321/laws.FnExactJoined", spec := "fnExactJoined", apart := false, narrowed := true }
def FnExactJoinedUptoSaid : Prop := fnExactJoinedUptoRow.holds Try.pinned (OpenSpec.upto fnExactJoinedSpec)

/-- 'laws.FnExactCommitteeText', WHERE WHAT IT READS IS OF BULK AT MOST 1048576: true; the input reads as it did. -/
def fnExactCommitteeTextUptoRow : OpenClaim := { program := "ytogcobdgnkiopaa", sum := "3201e101262cf9d368c1d64b808a2d011b8972d54d1abe7a3461ad2586297c82", func := "loop.example/g00321/laws.FnExactCommitteeText", spec := "fnExactCommitteeText", apart := false, narrowed := true }
def FnExactCommitteeTextUptoSaid : Prop := fnExactCommitteeTextUptoRow.holds Try.pinned (OpenSpec.upto fnExactCommitteeTextSpec)

/-- 'laws.FnExactReadCommittee', WHERE WHAT IT READS IS OF BULK AT MOST 1048576: true; the input reads as it did. -/
def fnExactReadCommitteeUptoRow : OpenClaim := { program := "ytogcobdgnkiopaa", sum := "3201e101262cf9d368c1d64b808a2d011b8972d54d1abe7a3461ad2586297c82", func := "loop.example/g00321/laws.FnExactReadCommittee", spec := "fnExactReadCommittee", apart := false, narrowed := true }
def FnExactReadCommitteeUptoSaid : Prop := fnExactReadCommitteeUptoRow.holds Try.pinned (OpenSpec.upto fnExactReadCommitteeSpec)

end Rows
end Go.Proofs.Ytogcobdgnkiopaa
