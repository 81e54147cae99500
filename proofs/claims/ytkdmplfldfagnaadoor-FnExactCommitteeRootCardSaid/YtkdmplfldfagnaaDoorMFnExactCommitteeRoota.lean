/- What is proved here: part 1 of 4 of the proof of the given statement FnExactCommitteeRoot: the contracts of the Go functions that it reaches, the plain facts on lists and numbers, and (in the last part) the statement itself. No conditions beyond the given ones. -/
import Derived.Test.YtkdmplfldfagnaaDoorProg
import Derived.Below
import Derived.Deep.Draws
import Derived.Deep.AppendLies
import Derived.Maps.AppendAt
import Derived.OwnWalk
import Derived.Laws.BytesArg
import Derived.Laws.MakeOwn
import Derived.Laws.OwnMore
import Derived.Deep.OwnRows
import Derived.Tactics
import Derived.Lib.ConvBytes
import Derived.Laws.Slices
import Derived.WalkKit
import Derived.KernelRfl
import Derived.RowKit3
import Derived.Deep.LoopGhost
import Derived.Deep.QuietTactic
import Derived.BigQuiet
import Derived.WideLaws
import Derived.Deep.DeepCutAuto
import Derived.Deep.CutBlock
import Derived.Deep.RegionHeld3
import Derived.Laws.Rows
import Derived.Lib.AppendStr
import Derived.ArgAppend
import Derived.Laws.IdiomCopy
import Derived.OrdersHeld
import Derived.Laws.BitsLemmas
import Derived.RowKit
import Derived.Test.YtkdmplfldfagnaaDoorMFnExactCommitteeRootwWords
import Derived.Test.YtkdmplfldfagnaaDoorMFnExactCommitteeRootwLast
import Derived.Test.YtkdmplfldfagnaaDoorMFnExactCommitteeRootwTab
import Derived.Test.YtkdmplfldfagnaaDoorMFnExactCommitteeRootwFour
import Derived.Test.YtkdmplfldfagnaaDoorMFnExactCommitteeRootwQPut
import Derived.Test.YtkdmplfldfagnaaDoorMFnExactCommitteeRootwApart
import Derived.Test.YtkdmplfldfagnaaDoorMFnExactCommitteeRootwArr
import Derived.Test.YtkdmplfldfagnaaDoorMFnExactCommitteeRootwZeros
import Derived.Test.YtkdmplfldfagnaaDoorMFnExactCommitteeRootwFoot
import Derived.Test.YtkdmplfldfagnaaDoorMFnExactCommitteeRootwKept
import Derived.Test.YtkdmplfldfagnaaDoorMFnExactCommitteeRootwShare
import Derived.Test.YtkdmplfldfagnaaDoorMFnExactCommitteeRootwN
import Derived.Test.YtkdmplfldfagnaaDoorMFnExactCommitteeRootwFootNe
import Derived.Test.YtkdmplfldfagnaaDoorMFnExactCommitteeRootwAt
import Derived.Test.YtkdmplfldfagnaaDoorMFnExactCommitteeRootwEqStruct
import Derived.Test.YtkdmplfldfagnaaDoorMFnExactCommitteeRootwRepsOne
import Derived.Test.YtkdmplfldfagnaaDoorMFnExactCommitteeRootwInv
import Derived.Test.YtkdmplfldfagnaaDoorMFnExactCommitteeRootwInvWords
import Derived.Test.YtkdmplfldfagnaaDoorMFnExactCommitteeRootwGuard
import Derived.Test.YtkdmplfldfagnaaDoorMFnExactCommitteeRootwNEv
import Derived.Test.YtkdmplfldfagnaaDoorMFnExactCommitteeRootwMore
import Derived.Test.YtkdmplfldfagnaaDoorMFnExactCommitteeRootwSlim
import Derived.Shelf.Strings.Repeat
import Derived.Laws.CopyOwn

section
namespace Go.Proofs.YtkdmplfldfagnaaDoor.Pf
open Go.RowKit Go.Proofs.YtkdmplfldfagnaaDoorW.PrintWords Go.Proofs.YtkdmplfldfagnaaDoorW.PrintLast Go.Proofs.YtkdmplfldfagnaaDoorW.PrintMore
attribute [local go_sem] max2_int min2_int max_two min_two max_three min_three max_four min_four   -- for this text's walks alone
set_option linter.unusedVariables false
set_option linter.unusedSimpArgs false
def errW : Option Int → Value
  | none => .nilIface
  | some c => .iface 0 (.int .i64 c)
theorem errW_none : errW none = .nilIface := rfl
theorem errW_some (c : Int) : errW (some c) = .iface 0 (.int .i64 c) := rfl

theorem info3 : (Tryd.prog.info? 3).map (fun i => (i.zero, i.size, i.bytes)) = some (some (.int .i64 0), 1, 8) := by kernel_rfl
theorem info5 : (Tryd.prog.info? 5).map (fun i => (i.zero, i.size, i.bytes)) = some (some (.int .u8 0), 1, 1) := by kernel_rfl
theorem info9 : (Tryd.prog.info? 9).map (fun i => (i.zero, i.size, i.bytes)) = some (some (.string ⟨#[]⟩), 1, 16) := by kernel_rfl
theorem info23 : (Tryd.prog.info? 23).map (fun i => (i.zero, i.size, i.bytes)) = some (some (.agg #[(.int .i64 0), (.int .i64 0), (.bool false)]), 3, 24) := by kernel_rfl
theorem info74 : (Tryd.prog.info? 74).map (fun i => (i.zero, i.size, i.bytes)) = some (some (.slice none 0 0), 1, 24) := by kernel_rfl
-- the values' own types
/-! #### struct type 42 -/
structure S42 where
  f0 : Int
  f1 : Int
  f2 : Bool
def z42 : S42 := ⟨(0 : Int), (0 : Int), false⟩
def k42 : Kd S42 := Kd.iso (Kd.pair (Kd.int .i64) (Kd.pair (Kd.int .i64) Kd.bool)) (fun x : S42 => (x.f0, x.f1, x.f2))
theorem k42_open {w : World} {x : S42} {cs : List Value} (h : k42.K w x cs) : cs = [.int .i64 x.f0, .int .i64 x.f1, .bool x.f2] := by
  obtain ⟨_, _, rfl, rfl, ⟨_, _, rfl, rfl, rfl⟩⟩ := h
  exact rfl
theorem k42_openM {w : World} {base : Nat} {ok : Nat → Prop} {x : S42} {cs : List Value} (h : k42.M w base ok x cs) : cs = [.int .i64 x.f0, .int .i64 x.f1, .bool x.f2] := by
  obtain ⟨_, _, rfl, rfl, ⟨_, _, rfl, rfl, rfl⟩⟩ := h
  exact rfl
theorem k42_mk (w : World) (x : S42)  : k42.K w x [.int .i64 x.f0, .int .i64 x.f1, .bool x.f2] := ⟨[.int .i64 x.f0], [.int .i64 x.f1, .bool x.f2], rfl, rfl, ⟨[.int .i64 x.f1], [.bool x.f2], rfl, rfl, rfl⟩⟩
theorem k42_mkM (w : World) (base : Nat) (ok : Nat → Prop) (x : S42)  : k42.M w base ok x [.int .i64 x.f0, .int .i64 x.f1, .bool x.f2] := ⟨[.int .i64 x.f0], [.int .i64 x.f1, .bool x.f2], rfl, rfl, ⟨[.int .i64 x.f1], [.bool x.f2], rfl, rfl, rfl⟩⟩
def rd_T42 (xs : List S42) (i : Int) : S42 := xs.getD i.toNat z42
theorem at_T42 {w : World} {A : Option Addr} {n : Nat} {xs : List S42} (h : Kd.C k42 w A n xs) (i : Int) (h0 : 0 ≤ i) (h1 : i < n) : ∃ ad , A = some ad ∧ w.cell? (ad.add (i.toNat * 3)) = some (.int .i64 (rd_T42 xs i).f0) ∧ w.cell? ⟨(ad.add (i.toNat * 3)).block, (ad.add (i.toNat * 3)).off + 1, none⟩ = some (.int .i64 (rd_T42 xs i).f1) ∧ w.cell? ⟨(ad.add (i.toNat * 3)).block, (ad.add (i.toNat * 3)).off + 2, none⟩ = some (.bool (rd_T42 xs i).f2) := by
  obtain ⟨ad, c, e, _, hK, hc0⟩ := Kd.C_get h z42 i h0 h1
  have hc : ∀ j u, c[j]? = some u → w.cell? (ad.add (i.toNat * 3 + j)) = some u := hc0
  obtain rfl := k42_open hK
  exact ⟨ad, e, hc 0 _ rfl, by rw [← add_field _ _ 1 (by omega)]; exact hc 1 _ rfl, by rw [← add_field _ _ 2 (by omega)]; exact hc 2 _ rfl⟩

/-! #### struct type 23 -/
structure S23 where
  f0 : Int
  f1 : Int
  f2 : Bool
def z23 : S23 := ⟨(0 : Int), (0 : Int), false⟩
def k23 : Kd S23 := Kd.iso (Kd.pair (Kd.int .i64) (Kd.pair (Kd.int .i64) Kd.bool)) (fun x : S23 => (x.f0, x.f1, x.f2))
theorem k23_open {w : World} {x : S23} {cs : List Value} (h : k23.K w x cs) : cs = [.int .i64 x.f0, .int .i64 x.f1, .bool x.f2] := by
  obtain ⟨_, _, rfl, rfl, ⟨_, _, rfl, rfl, rfl⟩⟩ := h
  exact rfl
theorem k23_openM {w : World} {base : Nat} {ok : Nat → Prop} {x : S23} {cs : List Value} (h : k23.M w base ok x cs) : cs = [.int .i64 x.f0, .int .i64 x.f1, .bool x.f2] := by
  obtain ⟨_, _, rfl, rfl, ⟨_, _, rfl, rfl, rfl⟩⟩ := h
  exact rfl
theorem k23_mk (w : World) (x : S23)  : k23.K w x [.int .i64 x.f0, .int .i64 x.f1, .bool x.f2] := ⟨[.int .i64 x.f0], [.int .i64 x.f1, .bool x.f2], rfl, rfl, ⟨[.int .i64 x.f1], [.bool x.f2], rfl, rfl, rfl⟩⟩
theorem k23_mkM (w : World) (base : Nat) (ok : Nat → Prop) (x : S23)  : k23.M w base ok x [.int .i64 x.f0, .int .i64 x.f1, .bool x.f2] := ⟨[.int .i64 x.f0], [.int .i64 x.f1, .bool x.f2], rfl, rfl, ⟨[.int .i64 x.f1], [.bool x.f2], rfl, rfl, rfl⟩⟩
def rd_T23 (xs : List S23) (i : Int) : S23 := xs.getD i.toNat z23
theorem at_T23 {w : World} {A : Option Addr} {n : Nat} {xs : List S23} (h : Kd.C k23 w A n xs) (i : Int) (h0 : 0 ≤ i) (h1 : i < n) : ∃ ad , A = some ad ∧ w.cell? (ad.add (i.toNat * 3)) = some (.int .i64 (rd_T23 xs i).f0) ∧ w.cell? ⟨(ad.add (i.toNat * 3)).block, (ad.add (i.toNat * 3)).off + 1, none⟩ = some (.int .i64 (rd_T23 xs i).f1) ∧ w.cell? ⟨(ad.add (i.toNat * 3)).block, (ad.add (i.toNat * 3)).off + 2, none⟩ = some (.bool (rd_T23 xs i).f2) := by
  obtain ⟨ad, c, e, _, hK, hc0⟩ := Kd.C_get h z23 i h0 h1
  have hc : ∀ j u, c[j]? = some u → w.cell? (ad.add (i.toNat * 3 + j)) = some u := hc0
  obtain rfl := k23_open hK
  exact ⟨ad, e, hc 0 _ rfl, by rw [← add_field _ _ 1 (by omega)]; exact hc 1 _ rfl, by rw [← add_field _ _ 2 (by omega)]; exact hc 2 _ rfl⟩

def rd_L6 (xs : List (List ByteArray)) (i : Int) : (List ByteArray) := xs.getD i.toNat ([] : List ByteArray)
theorem at_L6 {w : World} {A : Option Addr} {n : Nat} {xs : List (List ByteArray)} (h : Kd.C (Kd.slice 9 Kd.string) w A n xs) (i : Int) (h0 : 0 ≤ i) (h1 : i < n) : ∃ ad A0 c0, A = some ad ∧ w.cell? (ad.add i.toNat) = some (.slice A0 (rd_L6 xs i).length c0) ∧ (rd_L6 xs i).length ≤ c0 ∧ Kd.string.C w A0 (rd_L6 xs i).length (rd_L6 xs i) := by
  obtain ⟨ad, c, e, _, hK, hc0⟩ := Kd.C_get h ([] : List ByteArray) i h0 h1
  have hc : ∀ j u, c[j]? = some u → w.cell? (ad.add (i.toNat * 1 + j)) = some u := hc0
  obtain ⟨A0, c0, rfl, l0, g0⟩ := hK
  exact ⟨ad, A0, c0, e, by have hq := hc 0 _ rfl; rwa [Nat.mul_one, Nat.add_zero] at hq, l0, g0⟩

def rd_L7 (xs : List (List S42)) (i : Int) : (List S42) := xs.getD i.toNat ([] : List S42)
theorem at_L7 {w : World} {A : Option Addr} {n : Nat} {xs : List (List S42)} (h : Kd.C (Kd.slice 42 k42) w A n xs) (i : Int) (h0 : 0 ≤ i) (h1 : i < n) : ∃ ad A0 c0, A = some ad ∧ w.cell? (ad.add i.toNat) = some (.slice A0 (rd_L7 xs i).length c0) ∧ (rd_L7 xs i).length ≤ c0 ∧ k42.C w A0 (rd_L7 xs i).length (rd_L7 xs i) := by
  obtain ⟨ad, c, e, _, hK, hc0⟩ := Kd.C_get h ([] : List S42) i h0 h1
  have hc : ∀ j u, c[j]? = some u → w.cell? (ad.add (i.toNat * 1 + j)) = some u := hc0
  obtain ⟨A0, c0, rfl, l0, g0⟩ := hK
  exact ⟨ad, A0, c0, e, by have hq := hc 0 _ rfl; rwa [Nat.mul_one, Nat.add_zero] at hq, l0, g0⟩

def rd_L8 (xs : List (List Int)) (i : Int) : (List Int) := xs.getD i.toNat ([] : List Int)
theorem at_L8 {w : World} {A : Option Addr} {n : Nat} {xs : List (List Int)} (h : Kd.C (Kd.slice 5 (Kd.int .u8)) w A n xs) (i : Int) (h0 : 0 ≤ i) (h1 : i < n) : ∃ ad A0 c0, A = some ad ∧ w.cell? (ad.add i.toNat) = some (.slice A0 (rd_L8 xs i).length c0) ∧ (rd_L8 xs i).length ≤ c0 ∧ (Kd.int .u8).C w A0 (rd_L8 xs i).length (rd_L8 xs i) := by
  obtain ⟨ad, c, e, _, hK, hc0⟩ := Kd.C_get h ([] : List Int) i h0 h1
  have hc : ∀ j u, c[j]? = some u → w.cell? (ad.add (i.toNat * 1 + j)) = some u := hc0
  obtain ⟨A0, c0, rfl, l0, g0⟩ := hK
  exact ⟨ad, A0, c0, e, by have hq := hc 0 _ rfl; rwa [Nat.mul_one, Nat.add_zero] at hq, l0, g0⟩
/-! ### laws_szPointS: function 37 -/
def laws_szPointS.f (l0 : List (S42)) (a1 : Int) : Option (Int) := if (wrap64 (a1 - (l0.length : Int))) < 0 then (some (-1)) else (some (wrap64 (a1 - (l0.length : Int))))
set_option maxHeartbeats 8000000 in
set_option maxRecDepth 100000 in
theorem laws_szPointS.calls (A0 : Option Addr) (c0 : Nat) (l0 : List (S42)) (a1 : Int) (r : Int) (w : World) (hr0 : Kd.C k42 w A0 l0.length l0) (hc0 : l0.length ≤ c0) (h : laws_szPointS.f l0 a1 = some r) :
  Calls Tryd.prog 37 #[.slice A0 l0.length c0, .int .i64 a1] w fun e w' => e = .returned (.int .i64 r) ∧ Drawn0 w w' := by
 have HR0 := Aside0.mk hr0
 have HC0 := Aside0.mk hc0
 clear hr0 hc0
 have H : (if (wrap64 (a1 - (l0.length : Int))) < 0 then (some (-1)) else (some (wrap64 (a1 - (l0.length : Int))))) = some r := h
 clear h
 by_cases c3 : (wrap64 (a1 - (l0.length : Int))) < 0
 ·rw [if_pos c3] at H
  have c3b0 : decide ((wrap64 (a1 - (l0.length : Int))) < 0) = true := decide_eq_true c3
  clear c3
  obtain rfl := Option.some.inj H
  go_enter Tryd.func37, Tryd.ntmps37
  go_wp2
  go_ret
  exact ⟨rS, rD⟩
 ·rw [if_neg c3] at H
  have c3b0 : decide ((wrap64 (a1 - (l0.length : Int))) < 0) = false := decide_eq_false c3
  clear c3
  obtain rfl := Option.some.inj H
  go_enter Tryd.func37, Tryd.ntmps37
  go_wp2
  go_ret
  exact ⟨rS, rD⟩
/-! ### laws_szCommittee: function 17 -/
def laws_szCommittee.f (l0_0 : List (S42)) (a1 : Int) : Option (Int) := (laws_szPointS.f l0_0 a1).bind fun t375 => (if t375 < 0 then (some (-1)) else (some t375))
set_option maxHeartbeats 8000000 in
set_option maxRecDepth 100000 in
theorem laws_szCommittee.calls (A0_0 : Option Addr) (c0_0 : Nat) (l0_0 : List (S42)) (a1 : Int) (r : Int) (w : World) (hr0_0 : Kd.C k42 w A0_0 l0_0.length l0_0) (hc0_0 : l0_0.length ≤ c0_0) (h : laws_szCommittee.f l0_0 a1 = some r) :
  Calls Tryd.prog 17 #[.agg #[.slice A0_0 l0_0.length c0_0], .int .i64 a1] w fun e w' => e = .returned (.int .i64 r) ∧ Below w.heap.size w w' := by
 have hu33 := Tryd.underlying33
 have HR0_0 := Aside0.mk hr0_0
 have HC0_0 := Aside0.mk hc0_0
 clear hr0_0 hc0_0
 have HB := Aside0.mk (Below.refl w.heap.size w)
 have H : ((laws_szPointS.f l0_0 a1).bind fun t375 => (if t375 < 0 then (some (-1)) else (some t375))) = some r := h
 clear h
 replace H := Option.bind_eq_some_iff.mp H
 obtain ⟨t375, A30, H⟩ := H
 have A3 := Aside0.mk A30
 clear A30
 by_cases c4 : t375 < 0
 ·rw [if_pos c4] at H
  have c4b0 : decide (t375 < 0) = true := decide_eq_true c4
  clear c4
  obtain rfl := Option.some.inj H
  go_enter Tryd.func17, Tryd.ntmps17
  go_wp2_with (first | ((with_reducible refine gate_dst (N := 2) rfl ?_); refine bE 2 #[.slice A0_0 l0_0.length c0_0] 33 ?_; intro gb374 hg w5 hbox hb; have BK374 := Aside0.mk (hbox); have GW374 := bG HB hg; have GE374 := bG HB hg; replace HB := bS HB hb; clear hb hbox hg; obtain ⟨hcz6_0, hfz6_0⟩ := bK1 (w := w5) BK374) | ((with_reducible refine gate_callee (f := 37) rfl ?_); refine gL (some 8) Tryd.func37 #[.slice A0_0 l0_0.length c0_0, .int .i64 a1] ?_; (with_reducible refine (laws_szPointS.calls _ _ l0_0 a1 t375 _ ?side1 ?side2 A3.out).mono ?_); (case side1 => exact cP (Kd.C_below HR0_0.out HB.out)); (case side2 => exact HC0_0.out); rintro e w' ⟨rfl, ⟨nd, rfl⟩⟩; refine ⟨_, rfl, ?_⟩))
  go_ret
  exact ⟨rR, bZ HB⟩
 ·rw [if_neg c4] at H
  have c4b0 : decide (t375 < 0) = false := decide_eq_false c4
  clear c4
  obtain rfl := Option.some.inj H
  go_enter Tryd.func17, Tryd.ntmps17
  go_wp2_with (first | ((with_reducible refine gate_dst (N := 2) rfl ?_); refine bE 2 #[.slice A0_0 l0_0.length c0_0] 33 ?_; intro gb374 hg w7 hbox hb; have BK374 := Aside0.mk (hbox); have GW374 := bG HB hg; have GE374 := bG HB hg; replace HB := bS HB hb; clear hb hbox hg; obtain ⟨hcz8_0, hfz8_0⟩ := bK1 (w := w7) BK374) | ((with_reducible refine gate_callee (f := 37) rfl ?_); refine gL (some 8) Tryd.func37 #[.slice A0_0 l0_0.length c0_0, .int .i64 a1] ?_; (with_reducible refine (laws_szPointS.calls _ _ l0_0 a1 t375 _ ?side1 ?side2 A3.out).mono ?_); (case side1 => exact cP (Kd.C_below HR0_0.out HB.out)); (case side2 => exact HC0_0.out); rintro e w' ⟨rfl, ⟨nd, rfl⟩⟩; refine ⟨_, rfl, ?_⟩))
  go_ret
  exact ⟨rR, bZ HB⟩
/-! ### spec_FpOf: function 42 -/
def spec_FpOf.f (a0 : Int) : Option (Int) := if (Int.tmod a0 12107) < 0 then (some (wrap64 ((Int.tmod a0 12107) + 12107))) else (some (Int.tmod a0 12107))
set_option maxHeartbeats 8000000 in
set_option maxRecDepth 100000 in
theorem spec_FpOf.calls (a0 : Int) (r : Int) (w : World) (h : spec_FpOf.f a0 = some r) :
  Calls Tryd.prog 42 #[.int .i64 a0] w fun e w' => e = .returned (.int .i64 r) ∧ Drawn0 w w' := by
 have H : (if (Int.tmod a0 12107) < 0 then (some (wrap64 ((Int.tmod a0 12107) + 12107))) else (some (Int.tmod a0 12107))) = some r := h
 clear h
 by_cases c2 : (Int.tmod a0 12107) < 0
 ·rw [if_pos c2] at H
  have c2b0 : decide ((Int.tmod a0 12107) < 0) = true := decide_eq_true c2
  clear c2
  obtain rfl := Option.some.inj H
  go_enter Tryd.func42, Tryd.ntmps42
  go_wp2
  go_ret
  exact ⟨rS, rD⟩
 ·rw [if_neg c2] at H
  have c2b0 : decide ((Int.tmod a0 12107) < 0) = false := decide_eq_false c2
  clear c2
  obtain rfl := Option.some.inj H
  go_enter Tryd.func42, Tryd.ntmps42
  go_wp2
  go_ret
  exact ⟨rS, rD⟩
/-! ### spec_FpMul: function 84 -/
def spec_FpMul.f (a0 : Int) (a1 : Int) : Option (Int) := (spec_FpOf.f a0).bind fun t101 => ((spec_FpOf.f a1).bind fun t102 => ((spec_FpOf.f (wrap64 (t101 * t102))).bind fun t103 => (some t103)))
set_option maxHeartbeats 8000000 in
set_option maxRecDepth 100000 in
theorem spec_FpMul.calls (a0 : Int) (a1 : Int) (r : Int) (w : World) (h : spec_FpMul.f a0 a1 = some r) :
  Calls Tryd.prog 84 #[.int .i64 a0, .int .i64 a1] w fun e w' => e = .returned (.int .i64 r) ∧ Drawn0 w w' := by
 have H : ((spec_FpOf.f a0).bind fun t101 => ((spec_FpOf.f a1).bind fun t102 => ((spec_FpOf.f (wrap64 (t101 * t102))).bind fun t103 => (some t103)))) = some r := h
 clear h
 replace H := Option.bind_eq_some_iff.mp H
 obtain ⟨t101, A30, H⟩ := H
 have A3 := Aside0.mk A30
 clear A30
 replace H := Option.bind_eq_some_iff.mp H
 obtain ⟨t102, A40, H⟩ := H
 have A4 := Aside0.mk A40
 clear A40
 replace H := Option.bind_eq_some_iff.mp H
 obtain ⟨t103, A50, H⟩ := H
 have A5 := Aside0.mk A50
 clear A50
 obtain rfl := Option.some.inj H
 go_enter Tryd.func84, Tryd.ntmps84
 go_wp2_with (first | ((with_reducible refine gate_callee (f := 42) rfl ?_); refine gL (some 6) Tryd.func42 #[.int .i64 a0] ?_; (with_reducible refine (spec_FpOf.calls a0 t101 _ A3.out).mono ?_); rintro e w' ⟨rfl, ⟨nd, rfl⟩⟩; refine ⟨_, rfl, ?_⟩) | ((with_reducible refine gate_callee (f := 42) rfl ?_); refine gL (some 8) Tryd.func42 #[.int .i64 a1] ?_; (with_reducible refine (spec_FpOf.calls a1 t102 _ A4.out).mono ?_); rintro e w' ⟨rfl, ⟨nd, rfl⟩⟩; refine ⟨_, rfl, ?_⟩) | ((with_reducible refine gate_callee (f := 42) rfl ?_); refine gL (some 10) Tryd.func42 #[.int .i64 (wrap64 (t101 * t102))] ?_; (with_reducible refine (spec_FpOf.calls (wrap64 (t101 * t102)) t103 _ A5.out).mono ?_); rintro e w' ⟨rfl, ⟨nd, rfl⟩⟩; refine ⟨_, rfl, ?_⟩))
 go_ret
 exact ⟨rS, rD⟩
/-! ### spec_FpAdd: function 86 -/
def spec_FpAdd.f (a0 : Int) (a1 : Int) : Option (Int) := (spec_FpOf.f a0).bind fun t116 => ((spec_FpOf.f a1).bind fun t117 => ((spec_FpOf.f (wrap64 (t116 + t117))).bind fun t118 => (some t118)))
set_option maxHeartbeats 8000000 in
set_option maxRecDepth 100000 in
theorem spec_FpAdd.calls (a0 : Int) (a1 : Int) (r : Int) (w : World) (h : spec_FpAdd.f a0 a1 = some r) :
  Calls Tryd.prog 86 #[.int .i64 a0, .int .i64 a1] w fun e w' => e = .returned (.int .i64 r) ∧ Drawn0 w w' := by
 have H : ((spec_FpOf.f a0).bind fun t116 => ((spec_FpOf.f a1).bind fun t117 => ((spec_FpOf.f (wrap64 (t116 + t117))).bind fun t118 => (some t118)))) = some r := h
 clear h
 replace H := Option.bind_eq_some_iff.mp H
 obtain ⟨t116, A30, H⟩ := H
 have A3 := Aside0.mk A30
 clear A30
 replace H := Option.bind_eq_some_iff.mp H
 obtain ⟨t117, A40, H⟩ := H
 have A4 := Aside0.mk A40
 clear A40
 replace H := Option.bind_eq_some_iff.mp H
 obtain ⟨t118, A50, H⟩ := H
 have A5 := Aside0.mk A50
 clear A50
 obtain rfl := Option.some.inj H
 go_enter Tryd.func86, Tryd.ntmps86
 go_wp2_with (first | ((with_reducible refine gate_callee (f := 42) rfl ?_); refine gL (some 6) Tryd.func42 #[.int .i64 a0] ?_; (with_reducible refine (spec_FpOf.calls a0 t116 _ A3.out).mono ?_); rintro e w' ⟨rfl, ⟨nd, rfl⟩⟩; refine ⟨_, rfl, ?_⟩) | ((with_reducible refine gate_callee (f := 42) rfl ?_); refine gL (some 8) Tryd.func42 #[.int .i64 a1] ?_; (with_reducible refine (spec_FpOf.calls a1 t117 _ A4.out).mono ?_); rintro e w' ⟨rfl, ⟨nd, rfl⟩⟩; refine ⟨_, rfl, ?_⟩) | ((with_reducible refine gate_callee (f := 42) rfl ?_); refine gL (some 10) Tryd.func42 #[.int .i64 (wrap64 (t116 + t117))] ?_; (with_reducible refine (spec_FpOf.calls (wrap64 (t116 + t117)) t118 _ A5.out).mono ?_); rintro e w' ⟨rfl, ⟨nd, rfl⟩⟩; refine ⟨_, rfl, ?_⟩))
 go_ret
 exact ⟨rS, rD⟩
/-! ### spec_l07Right: function 44 -/
def spec_l07Right.f (a0 : Int) : Option (Int) := (spec_FpMul.f a0 a0).bind fun t119 => ((spec_FpMul.f t119 a0).bind fun t120 => ((spec_FpAdd.f t120 a0).bind fun t121 => (some t121)))
set_option maxHeartbeats 8000000 in
set_option maxRecDepth 100000 in
theorem spec_l07Right.calls (a0 : Int) (r : Int) (w : World) (h : spec_l07Right.f a0 = some r) :
  Calls Tryd.prog 44 #[.int .i64 a0] w fun e w' => e = .returned (.int .i64 r) ∧ Drawn0 w w' := by
 have H : ((spec_FpMul.f a0 a0).bind fun t119 => ((spec_FpMul.f t119 a0).bind fun t120 => ((spec_FpAdd.f t120 a0).bind fun t121 => (some t121)))) = some r := h
 clear h
 replace H := Option.bind_eq_some_iff.mp H
 obtain ⟨t119, A20, H⟩ := H
 have A2 := Aside0.mk A20
 clear A20
 replace H := Option.bind_eq_some_iff.mp H
 obtain ⟨t120, A30, H⟩ := H
 have A3 := Aside0.mk A30
 clear A30
 replace H := Option.bind_eq_some_iff.mp H
 obtain ⟨t121, A40, H⟩ := H
 have A4 := Aside0.mk A40
 clear A40
 obtain rfl := Option.some.inj H
 go_enter Tryd.func44, Tryd.ntmps44
 go_wp2_with (first | ((with_reducible refine gate_callee (f := 84) rfl ?_); refine gL (some 5) Tryd.func84 #[.int .i64 a0, .int .i64 a0] ?_; (with_reducible refine (spec_FpMul.calls a0 a0 t119 _ A2.out).mono ?_); rintro e w' ⟨rfl, ⟨nd, rfl⟩⟩; refine ⟨_, rfl, ?_⟩) | ((with_reducible refine gate_callee (f := 84) rfl ?_); refine gL (some 7) Tryd.func84 #[.int .i64 t119, .int .i64 a0] ?_; (with_reducible refine (spec_FpMul.calls t119 a0 t120 _ A3.out).mono ?_); rintro e w' ⟨rfl, ⟨nd, rfl⟩⟩; refine ⟨_, rfl, ?_⟩) | ((with_reducible refine gate_callee (f := 86) rfl ?_); refine gL (some 9) Tryd.func86 #[.int .i64 t120, .int .i64 a0] ?_; (with_reducible refine (spec_FpAdd.calls t120 a0 t121 _ A4.out).mono ?_); rintro e w' ⟨rfl, ⟨nd, rfl⟩⟩; refine ⟨_, rfl, ?_⟩))
 go_ret
 exact ⟨rS, rD⟩
/-! ### spec_l01In: function 55 -/
def spec_l01In.f (a0 : Int) (a1 : Int) (a2 : Int) : Option (Bool) := if a0 ≥ a1 then (some (decide (a0 ≤ a2))) else (some false)
set_option maxHeartbeats 8000000 in
set_option maxRecDepth 100000 in
theorem spec_l01In.calls (a0 : Int) (a1 : Int) (a2 : Int) (r : Bool) (w : World) (h : spec_l01In.f a0 a1 a2 = some r) :
  Calls Tryd.prog 55 #[.int .i64 a0, .int .i64 a1, .int .i64 a2] w fun e w' => e = .returned (.bool r) ∧ Drawn0 w w' := by
 have H : (if a0 ≥ a1 then (some (decide (a0 ≤ a2))) else (some false)) = some r := h
 clear h
 by_cases c4 : a0 ≥ a1
 ·rw [if_pos c4] at H
  have c4b0 : decide (a1 ≤ a0) = true := decide_eq_true c4
  clear c4
  obtain rfl := Option.some.inj H
  go_enter Tryd.func55, Tryd.ntmps55
  go_wp2
  go_ret
  exact ⟨rS, rD⟩
 ·rw [if_neg c4] at H
  have c4b0 : decide (a1 ≤ a0) = false := decide_eq_false c4
  clear c4
  obtain rfl := Option.some.inj H
  go_enter Tryd.func55, Tryd.ntmps55
  go_wp2
  go_ret
  exact ⟨rS, rD⟩
/-! ### spec_FpOk: function 119 -/
def spec_FpOk.f (a0 : Int) : Option (Bool) := (spec_l01In.f a0 0 12106).bind fun t123 => (some t123)
set_option maxHeartbeats 8000000 in
set_option maxRecDepth 100000 in
theorem spec_FpOk.calls (a0 : Int) (r : Bool) (w : World) (h : spec_FpOk.f a0 = some r) :
  Calls Tryd.prog 119 #[.int .i64 a0] w fun e w' => e = .returned (.bool r) ∧ Drawn0 w w' := by
 have H : ((spec_l01In.f a0 0 12106).bind fun t123 => (some t123)) = some r := h
 clear h
 replace H := Option.bind_eq_some_iff.mp H
 obtain ⟨t123, A20, H⟩ := H
 have A2 := Aside0.mk A20
 clear A20
 obtain rfl := Option.some.inj H
 go_enter Tryd.func119, Tryd.ntmps119
 go_wp2_with (first | ((with_reducible refine gate_callee (f := 55) rfl ?_); refine gL (some 4) Tryd.func55 #[.int .i64 a0, .int .i64 0, .int .i64 12106] ?_; (with_reducible refine (spec_l01In.calls a0 0 12106 t123 _ A2.out).mono ?_); rintro e w' ⟨rfl, ⟨nd, rfl⟩⟩; refine ⟨_, rfl, ?_⟩))
 go_ret
 exact ⟨rS, rD⟩
/-! ### spec_PointOk: function 87 -/
def spec_PointOk.f (a0_0 : Int) (a0_1 : Int) (a0_2 : Bool) : Option (Bool) := if a0_2 = true then (if a0_0 = 0 then (some (a0_1 == 0)) else (some false)) else ((spec_FpOk.f a0_0).bind fun t125 => (if t125 = true then ((spec_FpOk.f a0_1).bind fun t126 => (if t126 = true then ((spec_FpMul.f a0_1 a0_1).bind fun t127 => ((spec_l07Right.f a0_0).bind fun t128 => (some (t127 == t128)))) else (some false))) else (some false)))
set_option maxHeartbeats 8000000 in
set_option maxRecDepth 100000 in
theorem spec_PointOk.calls (a0_0 : Int) (a0_1 : Int) (a0_2 : Bool) (r : Bool) (w : World) (h : spec_PointOk.f a0_0 a0_1 a0_2 = some r) :
  Calls Tryd.prog 87 #[.agg #[.int .i64 a0_0, .int .i64 a0_1, .bool a0_2]] w fun e w' => e = .returned (.bool r) ∧ Below w.heap.size w w' := by
 have hu23 := Tryd.underlying23
 have HB := Aside0.mk (Below.refl w.heap.size w)
 have H : (if a0_2 = true then (if a0_0 = 0 then (some (a0_1 == 0)) else (some false)) else ((spec_FpOk.f a0_0).bind fun t125 => (if t125 = true then ((spec_FpOk.f a0_1).bind fun t126 => (if t126 = true then ((spec_FpMul.f a0_1 a0_1).bind fun t127 => ((spec_l07Right.f a0_0).bind fun t128 => (some (t127 == t128)))) else (some false))) else (some false)))) = some r := h
 clear h
 by_cases c2 : a0_2 = true
 ·subst c2
  rw [if_pos rfl] at H
  by_cases c3 : a0_0 = 0
  ·rw [if_pos c3] at H
   have c3b0 : (a0_0 == 0) = true := beq_iff_eq.mpr c3
   have c3b1 : (a0_0 != 0) = false := bne_eq_false_iff_eq.mpr c3
   clear c3
   obtain rfl := Option.some.inj H
   go_enter Tryd.func87, Tryd.ntmps87
   go_wp2_with (first | ((with_reducible refine gate_dst (N := 1) rfl ?_); refine bE 1 #[.int .i64 a0_0, .int .i64 a0_1, .bool true] 23 ?_; intro gb124 hg w4 hbox hb; have BK124 := Aside0.mk (hbox); have GW124 := bG HB hg; have GE124 := bG HB hg; replace HB := bS HB hb; clear hb hbox hg; obtain ⟨hcz5_0, hcz5_1, hcz5_2, hfz5_0, hfz5_1, hfz5_2⟩ := bK3 (w := w4) BK124))
   repeat (go_quiet (first | ((with_reducible refine gate_dst (N := 1) rfl ?_); refine bE 1 #[.int .i64 a0_0, .int .i64 a0_1, .bool true] 23 ?_; intro gb124 hg w4 hbox hb; have BK124 := Aside0.mk (hbox); have GW124 := bG HB hg; have GE124 := bG HB hg; replace HB := bS HB hb; clear hb hbox hg; obtain ⟨hcz5_0, hcz5_1, hcz5_2, hfz5_0, hfz5_1, hfz5_2⟩ := bK3 (w := w4) BK124)); try go_wp2_with (first | ((with_reducible refine gate_dst (N := 1) rfl ?_); refine bE 1 #[.int .i64 a0_0, .int .i64 a0_1, .bool true] 23 ?_; intro gb124 hg w4 hbox hb; have BK124 := Aside0.mk (hbox); have GW124 := bG HB hg; have GE124 := bG HB hg; replace HB := bS HB hb; clear hb hbox hg; obtain ⟨hcz5_0, hcz5_1, hcz5_2, hfz5_0, hfz5_1, hfz5_2⟩ := bK3 (w := w4) BK124)))
   go_ret
   exact ⟨rR, bZ HB⟩
  ·rw [if_neg c3] at H
   have c3b0 : (a0_0 == 0) = false := beq_eq_false_iff_ne.mpr c3
   have c3b1 : (a0_0 != 0) = true := bne_iff_ne.mpr c3
   obtain rfl := Option.some.inj H
   go_enter Tryd.func87, Tryd.ntmps87
   go_wp2_with (first | ((with_reducible refine gate_dst (N := 1) rfl ?_); refine bE 1 #[.int .i64 a0_0, .int .i64 a0_1, .bool true] 23 ?_; intro gb124 hg w6 hbox hb; have BK124 := Aside0.mk (hbox); have GW124 := bG HB hg; have GE124 := bG HB hg; replace HB := bS HB hb; clear hb hbox hg; obtain ⟨hcz7_0, hcz7_1, hcz7_2, hfz7_0, hfz7_1, hfz7_2⟩ := bK3 (w := w6) BK124))
   repeat (go_quiet (first | ((with_reducible refine gate_dst (N := 1) rfl ?_); refine bE 1 #[.int .i64 a0_0, .int .i64 a0_1, .bool true] 23 ?_; intro gb124 hg w6 hbox hb; have BK124 := Aside0.mk (hbox); have GW124 := bG HB hg; have GE124 := bG HB hg; replace HB := bS HB hb; clear hb hbox hg; obtain ⟨hcz7_0, hcz7_1, hcz7_2, hfz7_0, hfz7_1, hfz7_2⟩ := bK3 (w := w6) BK124)); try go_wp2_with (first | ((with_reducible refine gate_dst (N := 1) rfl ?_); refine bE 1 #[.int .i64 a0_0, .int .i64 a0_1, .bool true] 23 ?_; intro gb124 hg w6 hbox hb; have BK124 := Aside0.mk (hbox); have GW124 := bG HB hg; have GE124 := bG HB hg; replace HB := bS HB hb; clear hb hbox hg; obtain ⟨hcz7_0, hcz7_1, hcz7_2, hfz7_0, hfz7_1, hfz7_2⟩ := bK3 (w := w6) BK124)))
   go_ret
   exact ⟨rR, bZ HB⟩
 ·replace c2 := Bool.eq_false_iff.mpr c2
  subst c2
  rw [if_neg (show ¬ (false = true) by decide)] at H
  replace H := Option.bind_eq_some_iff.mp H
  obtain ⟨t125, A80, H⟩ := H
  have A8 := Aside0.mk A80
  clear A80
  by_cases c9 : t125 = true
  ·subst c9
   rw [if_pos rfl] at H
   replace H := Option.bind_eq_some_iff.mp H
   obtain ⟨t126, A100, H⟩ := H
   have A10 := Aside0.mk A100
   clear A100
   by_cases c11 : t126 = true
   ·subst c11
    rw [if_pos rfl] at H
    replace H := Option.bind_eq_some_iff.mp H
    obtain ⟨t127, A120, H⟩ := H
    have A12 := Aside0.mk A120
    clear A120
    replace H := Option.bind_eq_some_iff.mp H
    obtain ⟨t128, A130, H⟩ := H
    have A13 := Aside0.mk A130
    clear A130
    obtain rfl := Option.some.inj H
    go_enter Tryd.func87, Tryd.ntmps87
    go_wp2_with (first | ((with_reducible refine gate_dst (N := 1) rfl ?_); refine bE 1 #[.int .i64 a0_0, .int .i64 a0_1, .bool false] 23 ?_; intro gb124 hg w14 hbox hb; have BK124 := Aside0.mk (hbox); have GW124 := bG HB hg; have GE124 := bG HB hg; replace HB := bS HB hb; clear hb hbox hg; obtain ⟨hcz15_0, hcz15_1, hcz15_2, hfz15_0, hfz15_1, hfz15_2⟩ := bK3 (w := w14) BK124) | (go_at_call 119; (with_reducible refine (spec_FpOk.calls a0_0 true _ A8.out).mono ?_); rintro e w' ⟨rfl, ⟨nd, rfl⟩⟩; (try exact tD)) | (go_at_call 119; (with_reducible refine (spec_FpOk.calls a0_1 true _ A10.out).mono ?_); rintro e w' ⟨rfl, ⟨nd, rfl⟩⟩; (try exact tD)) | (go_at_call 84; (with_reducible refine (spec_FpMul.calls a0_1 a0_1 t127 _ A12.out).mono ?_); rintro e w' ⟨rfl, ⟨nd, rfl⟩⟩; (try exact tD)) | (go_at_call 44; (with_reducible refine (spec_l07Right.calls a0_0 t128 _ A13.out).mono ?_); rintro e w' ⟨rfl, ⟨nd, rfl⟩⟩; (try exact tD)))
    repeat (go_quiet (first | ((with_reducible refine gate_dst (N := 1) rfl ?_); refine bE 1 #[.int .i64 a0_0, .int .i64 a0_1, .bool false] 23 ?_; intro gb124 hg w14 hbox hb; have BK124 := Aside0.mk (hbox); have GW124 := bG HB hg; have GE124 := bG HB hg; replace HB := bS HB hb; clear hb hbox hg; obtain ⟨hcz15_0, hcz15_1, hcz15_2, hfz15_0, hfz15_1, hfz15_2⟩ := bK3 (w := w14) BK124) | (go_at_call 119; (with_reducible refine (spec_FpOk.calls a0_0 true _ A8.out).mono ?_); rintro e w' ⟨rfl, ⟨nd, rfl⟩⟩; (try exact tD)) | (go_at_call 119; (with_reducible refine (spec_FpOk.calls a0_1 true _ A10.out).mono ?_); rintro e w' ⟨rfl, ⟨nd, rfl⟩⟩; (try exact tD)) | (go_at_call 84; (with_reducible refine (spec_FpMul.calls a0_1 a0_1 t127 _ A12.out).mono ?_); rintro e w' ⟨rfl, ⟨nd, rfl⟩⟩; (try exact tD)) | (go_at_call 44; (with_reducible refine (spec_l07Right.calls a0_0 t128 _ A13.out).mono ?_); rintro e w' ⟨rfl, ⟨nd, rfl⟩⟩; (try exact tD))); try go_wp2_with (first | ((with_reducible refine gate_dst (N := 1) rfl ?_); refine bE 1 #[.int .i64 a0_0, .int .i64 a0_1, .bool false] 23 ?_; intro gb124 hg w14 hbox hb; have BK124 := Aside0.mk (hbox); have GW124 := bG HB hg; have GE124 := bG HB hg; replace HB := bS HB hb; clear hb hbox hg; obtain ⟨hcz15_0, hcz15_1, hcz15_2, hfz15_0, hfz15_1, hfz15_2⟩ := bK3 (w := w14) BK124) | (go_at_call 119; (with_reducible refine (spec_FpOk.calls a0_0 true _ A8.out).mono ?_); rintro e w' ⟨rfl, ⟨nd, rfl⟩⟩; (try exact tD)) | (go_at_call 119; (with_reducible refine (spec_FpOk.calls a0_1 true _ A10.out).mono ?_); rintro e w' ⟨rfl, ⟨nd, rfl⟩⟩; (try exact tD)) | (go_at_call 84; (with_reducible refine (spec_FpMul.calls a0_1 a0_1 t127 _ A12.out).mono ?_); rintro e w' ⟨rfl, ⟨nd, rfl⟩⟩; (try exact tD)) | (go_at_call 44; (with_reducible refine (spec_l07Right.calls a0_0 t128 _ A13.out).mono ?_); rintro e w' ⟨rfl, ⟨nd, rfl⟩⟩; (try exact tD))))
    go_ret
    exact ⟨rR, bZ HB⟩
   ·replace c11 := Bool.eq_false_iff.mpr c11
    subst c11
    rw [if_neg (show ¬ (false = true) by decide)] at H
    obtain rfl := Option.some.inj H
    go_enter Tryd.func87, Tryd.ntmps87
    go_wp2_with (first | ((with_reducible refine gate_dst (N := 1) rfl ?_); refine bE 1 #[.int .i64 a0_0, .int .i64 a0_1, .bool false] 23 ?_; intro gb124 hg w16 hbox hb; have BK124 := Aside0.mk (hbox); have GW124 := bG HB hg; have GE124 := bG HB hg; replace HB := bS HB hb; clear hb hbox hg; obtain ⟨hcz17_0, hcz17_1, hcz17_2, hfz17_0, hfz17_1, hfz17_2⟩ := bK3 (w := w16) BK124) | (go_at_call 119; (with_reducible refine (spec_FpOk.calls a0_0 true _ A8.out).mono ?_); rintro e w' ⟨rfl, ⟨nd, rfl⟩⟩; (try exact tD)) | (go_at_call 119; (with_reducible refine (spec_FpOk.calls a0_1 false _ A10.out).mono ?_); rintro e w' ⟨rfl, ⟨nd, rfl⟩⟩; (try exact tD)))
    repeat (go_quiet (first | ((with_reducible refine gate_dst (N := 1) rfl ?_); refine bE 1 #[.int .i64 a0_0, .int .i64 a0_1, .bool false] 23 ?_; intro gb124 hg w16 hbox hb; have BK124 := Aside0.mk (hbox); have GW124 := bG HB hg; have GE124 := bG HB hg; replace HB := bS HB hb; clear hb hbox hg; obtain ⟨hcz17_0, hcz17_1, hcz17_2, hfz17_0, hfz17_1, hfz17_2⟩ := bK3 (w := w16) BK124) | (go_at_call 119; (with_reducible refine (spec_FpOk.calls a0_0 true _ A8.out).mono ?_); rintro e w' ⟨rfl, ⟨nd, rfl⟩⟩; (try exact tD)) | (go_at_call 119; (with_reducible refine (spec_FpOk.calls a0_1 false _ A10.out).mono ?_); rintro e w' ⟨rfl, ⟨nd, rfl⟩⟩; (try exact tD))); try go_wp2_with (first | ((with_reducible refine gate_dst (N := 1) rfl ?_); refine bE 1 #[.int .i64 a0_0, .int .i64 a0_1, .bool false] 23 ?_; intro gb124 hg w16 hbox hb; have BK124 := Aside0.mk (hbox); have GW124 := bG HB hg; have GE124 := bG HB hg; replace HB := bS HB hb; clear hb hbox hg; obtain ⟨hcz17_0, hcz17_1, hcz17_2, hfz17_0, hfz17_1, hfz17_2⟩ := bK3 (w := w16) BK124) | (go_at_call 119; (with_reducible refine (spec_FpOk.calls a0_0 true _ A8.out).mono ?_); rintro e w' ⟨rfl, ⟨nd, rfl⟩⟩; (try exact tD)) | (go_at_call 119; (with_reducible refine (spec_FpOk.calls a0_1 false _ A10.out).mono ?_); rintro e w' ⟨rfl, ⟨nd, rfl⟩⟩; (try exact tD))))
    go_ret
    exact ⟨rR, bZ HB⟩
  ·replace c9 := Bool.eq_false_iff.mpr c9
   subst c9
   rw [if_neg (show ¬ (false = true) by decide)] at H
   obtain rfl := Option.some.inj H
   go_enter Tryd.func87, Tryd.ntmps87
   go_wp2_with (first | ((with_reducible refine gate_dst (N := 1) rfl ?_); refine bE 1 #[.int .i64 a0_0, .int .i64 a0_1, .bool false] 23 ?_; intro gb124 hg w18 hbox hb; have BK124 := Aside0.mk (hbox); have GW124 := bG HB hg; have GE124 := bG HB hg; replace HB := bS HB hb; clear hb hbox hg; obtain ⟨hcz19_0, hcz19_1, hcz19_2, hfz19_0, hfz19_1, hfz19_2⟩ := bK3 (w := w18) BK124) | (go_at_call 119; (with_reducible refine (spec_FpOk.calls a0_0 false _ A8.out).mono ?_); rintro e w' ⟨rfl, ⟨nd, rfl⟩⟩; (try exact tD)))
   repeat (go_quiet (first | ((with_reducible refine gate_dst (N := 1) rfl ?_); refine bE 1 #[.int .i64 a0_0, .int .i64 a0_1, .bool false] 23 ?_; intro gb124 hg w18 hbox hb; have BK124 := Aside0.mk (hbox); have GW124 := bG HB hg; have GE124 := bG HB hg; replace HB := bS HB hb; clear hb hbox hg; obtain ⟨hcz19_0, hcz19_1, hcz19_2, hfz19_0, hfz19_1, hfz19_2⟩ := bK3 (w := w18) BK124) | (go_at_call 119; (with_reducible refine (spec_FpOk.calls a0_0 false _ A8.out).mono ?_); rintro e w' ⟨rfl, ⟨nd, rfl⟩⟩; (try exact tD))); try go_wp2_with (first | ((with_reducible refine gate_dst (N := 1) rfl ?_); refine bE 1 #[.int .i64 a0_0, .int .i64 a0_1, .bool false] 23 ?_; intro gb124 hg w18 hbox hb; have BK124 := Aside0.mk (hbox); have GW124 := bG HB hg; have GE124 := bG HB hg; replace HB := bS HB hb; clear hb hbox hg; obtain ⟨hcz19_0, hcz19_1, hcz19_2, hfz19_0, hfz19_1, hfz19_2⟩ := bK3 (w := w18) BK124) | (go_at_call 119; (with_reducible refine (spec_FpOk.calls a0_0 false _ A8.out).mono ?_); rintro e w' ⟨rfl, ⟨nd, rfl⟩⟩; (try exact tD))))
   go_ret
   exact ⟨rR, bZ HB⟩
/-! ### spec_l07Zero: function 56 -/
def spec_l07Zero.f  : Option (Int × Int × Bool) := some (0, 0, true)
set_option maxHeartbeats 8000000 in
set_option maxRecDepth 100000 in
theorem spec_l07Zero.calls  (r1 : Int) (r2 : Int) (r3 : Bool) (w : World) (h : spec_l07Zero.f  = some (r1, r2, r3)) :
  Calls Tryd.prog 56 #[] w fun e w' => e = .returned (.agg #[.int .i64 r1, .int .i64 r2, .bool r3]) ∧ Below w.heap.size w w' := by
 have hu23 := Tryd.underlying23
 have HB := Aside0.mk (Below.refl w.heap.size w)
 have H : (some (0, 0, true)) = some (r1, r2, r3) := h
 clear h
 simp only [Option.some.injEq, Prod.mk.injEq] at H
 obtain ⟨rfl, rfl, rfl⟩ := H
 go_enter Tryd.func56, Tryd.ntmps56
 go_wp2_with (first | ((with_reducible refine gate_dst (N := 0) rfl ?_); refine bE 0 #[.int .i64 0, .int .i64 0, .bool false] 23 ?_; intro gb122 hg w1 hbox hb; have BK122 := Aside0.mk (hbox); have GW122 := bG HB hg; have GE122 := bG HB hg; replace HB := bS HB hb; clear hb hbox hg; obtain ⟨hcz2_0, hcz2_1, hcz2_2, hfz2_0, hfz2_1, hfz2_2⟩ := bK3 (w := w1) BK122))
 refine rC gb122 23 #[.int .i64 0, .int .i64 0, .bool true] (bU BK122) Tryd.underlying23 ?_
 exact ⟨rR, bZ HB⟩
/-! ### spec_FpSub: function 85 -/
def spec_FpSub.f (a0 : Int) (a1 : Int) : Option (Int) := (spec_FpOf.f a0).bind fun t108 => ((spec_FpOf.f a1).bind fun t109 => ((spec_FpOf.f (wrap64 (t108 - t109))).bind fun t110 => (some t110)))
set_option maxHeartbeats 8000000 in
set_option maxRecDepth 100000 in
theorem spec_FpSub.calls (a0 : Int) (a1 : Int) (r : Int) (w : World) (h : spec_FpSub.f a0 a1 = some r) :
  Calls Tryd.prog 85 #[.int .i64 a0, .int .i64 a1] w fun e w' => e = .returned (.int .i64 r) ∧ Drawn0 w w' := by
 have H : ((spec_FpOf.f a0).bind fun t108 => ((spec_FpOf.f a1).bind fun t109 => ((spec_FpOf.f (wrap64 (t108 - t109))).bind fun t110 => (some t110)))) = some r := h
 clear h
 replace H := Option.bind_eq_some_iff.mp H
 obtain ⟨t108, A30, H⟩ := H
 have A3 := Aside0.mk A30
 clear A30
 replace H := Option.bind_eq_some_iff.mp H
 obtain ⟨t109, A40, H⟩ := H
 have A4 := Aside0.mk A40
 clear A40
 replace H := Option.bind_eq_some_iff.mp H
 obtain ⟨t110, A50, H⟩ := H
 have A5 := Aside0.mk A50
 clear A50
 obtain rfl := Option.some.inj H
 go_enter Tryd.func85, Tryd.ntmps85
 go_wp2_with (first | ((with_reducible refine gate_callee (f := 42) rfl ?_); refine gL (some 6) Tryd.func42 #[.int .i64 a0] ?_; (with_reducible refine (spec_FpOf.calls a0 t108 _ A3.out).mono ?_); rintro e w' ⟨rfl, ⟨nd, rfl⟩⟩; refine ⟨_, rfl, ?_⟩) | ((with_reducible refine gate_callee (f := 42) rfl ?_); refine gL (some 8) Tryd.func42 #[.int .i64 a1] ?_; (with_reducible refine (spec_FpOf.calls a1 t109 _ A4.out).mono ?_); rintro e w' ⟨rfl, ⟨nd, rfl⟩⟩; refine ⟨_, rfl, ?_⟩) | ((with_reducible refine gate_callee (f := 42) rfl ?_); refine gL (some 10) Tryd.func42 #[.int .i64 (wrap64 (t108 - t109))] ?_; (with_reducible refine (spec_FpOf.calls (wrap64 (t108 - t109)) t110 _ A5.out).mono ?_); rintro e w' ⟨rfl, ⟨nd, rfl⟩⟩; refine ⟨_, rfl, ?_⟩))
 go_ret
 exact ⟨rS, rD⟩
/-! ### spec_PointNeg: function 88 -/
def spec_PointNeg.f (a0_0 : Int) (a0_1 : Int) (a0_2 : Bool) : Option (Int × Int × Bool) := if a0_2 = true then ((spec_l07Zero.f).bind fun bt131 => (some (bt131.1, bt131.2.1, bt131.2.2))) else ((spec_FpSub.f 0 a0_1).bind fun t134 => (some (a0_0, t134, false)))
set_option maxHeartbeats 8000000 in
set_option maxRecDepth 100000 in
theorem spec_PointNeg.calls (a0_0 : Int) (a0_1 : Int) (a0_2 : Bool) (r1 : Int) (r2 : Int) (r3 : Bool) (w : World) (h : spec_PointNeg.f a0_0 a0_1 a0_2 = some (r1, r2, r3)) :
  Calls Tryd.prog 88 #[.agg #[.int .i64 a0_0, .int .i64 a0_1, .bool a0_2]] w fun e w' => e = .returned (.agg #[.int .i64 r1, .int .i64 r2, .bool r3]) ∧ Below w.heap.size w w' := by
 have hu23 := Tryd.underlying23
 have HB := Aside0.mk (Below.refl w.heap.size w)
 have H : (if a0_2 = true then ((spec_l07Zero.f).bind fun bt131 => (some (bt131.1, bt131.2.1, bt131.2.2))) else ((spec_FpSub.f 0 a0_1).bind fun t134 => (some (a0_0, t134, false)))) = some (r1, r2, r3) := h
 clear h
 by_cases c2 : a0_2 = true
 ·subst c2
  rw [if_pos rfl] at H
  replace H := Option.bind_eq_some_iff.mp H
  obtain ⟨⟨t131, t132, t133⟩, A30, H⟩ := H
  have A3 := Aside0.mk A30
  clear A30
  simp only [Option.some.injEq, Prod.mk.injEq] at H
  obtain ⟨rfl, rfl, rfl⟩ := H
  go_enter Tryd.func88, Tryd.ntmps88
  go_wp2_with (first | ((with_reducible refine gate_dst (N := 1) rfl ?_); refine bE 1 #[.int .i64 a0_0, .int .i64 a0_1, .bool true] 23 ?_; intro gb129 hg w4 hbox hb; have BK129 := Aside0.mk (hbox); have GW129 := bG HB hg; have GE129 := bG HB hg; replace HB := bS HB hb; clear hb hbox hg) | ((with_reducible refine gate_dst (N := 2) rfl ?_); refine bE 2 #[.int .i64 0, .int .i64 0, .bool false] 23 ?_; intro gb130 hg w5 hbox hb; have BK130 := Aside0.mk (hbox); have GW130 := bG HB hg; have GE130 := bG HB hg; replace HB := bS HB hb; have NB129_130 := bL BK129 hg; have NB130_129 := bR BK129 hg; replace BK129 := bB BK129 hb; clear hb hbox hg; have hnb6 := NB129_130.out; have hnc6 := NB130_129.out; obtain ⟨hcz7_0, hcz7_1, hcz7_2, hfz7_0, hfz7_1, hfz7_2⟩ := bK3 (w := w5) BK129) | ((with_reducible refine gate_callee (f := 56) rfl ?_); refine gL (some 5) Tryd.func56 #[] ?_; (with_reducible refine (spec_l07Zero.calls  t131 t132 t133 _ A3.out).mono ?_); rintro e w8 ⟨rfl, hb⟩; refine ⟨_, rfl, ?_⟩; replace BK129 := bB BK129 hb; replace BK130 := bB BK130 hb; replace HB := bS HB hb; (try clear hb); obtain ⟨hcz9_0, hcz9_1, hcz9_2, hfz9_0, hfz9_1, hfz9_2⟩ := bK3 (w := w8) BK130))
  refine rC gb130 23 #[.int .i64 t131, .int .i64 t132, .bool t133] (bU BK130) Tryd.underlying23 ?_
  exact ⟨rR, bZ HB⟩
 ·replace c2 := Bool.eq_false_iff.mpr c2
  subst c2
  rw [if_neg (show ¬ (false = true) by decide)] at H
  replace H := Option.bind_eq_some_iff.mp H
  obtain ⟨t134, A100, H⟩ := H
  have A10 := Aside0.mk A100
  clear A100
  simp only [Option.some.injEq, Prod.mk.injEq] at H
  obtain ⟨rfl, rfl, rfl⟩ := H
  go_enter Tryd.func88, Tryd.ntmps88
  try go_wp2_with (first | ((with_reducible refine gate_dst (N := 1) rfl ?_); refine bE 1 #[.int .i64 a0_0, .int .i64 a0_1, .bool false] 23 ?_; intro gb129 hg w11 hbox hb; have BK129 := Aside0.mk (hbox); have GW129 := bG HB hg; have GE129 := bG HB hg; replace HB := bS HB hb; clear hb hbox hg) | ((with_reducible refine gate_dst (N := 2) rfl ?_); refine bE 2 #[.int .i64 0, .int .i64 0, .bool false] 23 ?_; intro gb130 hg w12 hbox hb; have BK130 := Aside0.mk (hbox); have GW130 := bG HB hg; have GE130 := bG HB hg; replace HB := bS HB hb; have NB129_130 := bL BK129 hg; have NB130_129 := bR BK129 hg; replace BK129 := bB BK129 hb; clear hb hbox hg; have hnb13 := NB129_130.out; have hnc13 := NB130_129.out; obtain ⟨hcz14_0, hcz14_1, hcz14_2, hfz14_0, hfz14_1, hfz14_2⟩ := bK3 (w := w12) BK129))
  replace BK129 := Aside0.mk (blk_drew BK129.out)
  replace BK130 := Aside0.mk (blk_drew BK130.out)
  replace HB := Aside0.mk (below_drew1 HB.out)
  refine start_ (n := 7) (S := fun w' => w'.cell? ⟨gb129, 0, none⟩ = some (.int .i64 a0_0) ∧ w'.cell? ⟨gb129, 1, none⟩ = some (.int .i64 a0_1) ∧ w'.cell? ⟨gb129, 2, none⟩ = some (.bool false)) (ds := []) #[false, false, false, false, false, false, false] (by kernel_rfl) rfl rfl ⟨bc BK129 0, bc BK129 1, bc BK129 2⟩ (fun hHeld => ?_)
  generalize w12.drew = w15 at BK129 BK130 HB hHeld ⊢
  refine pure_ (i := 0) (N := some 6) (v := ?_) (a' := ?_) #[true, false, false, false, false, false, false] rfl rfl (by kernel_rfl) (fun _ _ _ h => h) (Or.inl ⟨by rfl, ?_⟩) ?_ ?_
  rotate_left
  ·intro w'
   go_simp
   with_reducible rfl
  rotate_left
  ·simp only [Act.put, List.setIfInBounds_toArray, List.set_cons_zero, List.set_cons_succ, i64_w, i32_w]
   rfl
  refine pure_ (i := 2) (N := some 8) (v := ?_) (a' := ?_) #[true, false, true, false, false, false, false] rfl rfl (by kernel_rfl) (fun _ _ _ h => h) (Or.inl ⟨by rfl, ?_⟩) ?_ ?_
  rotate_left
  ·intro w'
   go_simp
   with_reducible rfl
  rotate_left
  ·simp only [Act.put, List.setIfInBounds_toArray, List.set_cons_zero, List.set_cons_succ, i64_w, i32_w]
   rfl
  refine take_ (i := 1) (N := some 7) (v := ?_) (a' := ?_) #[true, true, true, false, false, false, false] rfl rfl (by kernel_rfl) (fun _ _ _ h => h) (Or.inl ⟨by rfl, ?_⟩) hHeld ?_ ?_
  rotate_left
  ·rintro w' ⟨s0, s1, s2⟩
   go_simp
   with_reducible rfl
  rotate_left
  ·simp only [Act.put, List.setIfInBounds_toArray, List.set_cons_zero, List.set_cons_succ, i64_w, i32_w]
   rfl
  refine take_ (i := 3) (N := some 9) (v := ?_) (a' := ?_) #[true, true, true, true, false, false, false] rfl rfl (by kernel_rfl) (fun _ _ _ h => h) (Or.inl ⟨by rfl, ?_⟩) hHeld ?_ ?_
  rotate_left
  ·rintro w' ⟨s0, s1, s2⟩
   go_simp
   with_reducible rfl
  rotate_left
  ·simp only [Act.put, List.setIfInBounds_toArray, List.set_cons_zero, List.set_cons_succ, i64_w, i32_w]
   rfl
  refine one_ (i := 4) (N := some 10) #[true, true, true, true, true, false, false] rfl rfl (by kernel_rfl) (by decide) (fun K hK => ?_)
  refine gO Tryd.func85 #[.int .i64 0, .int .i64 a0_1] ?_
  with_reducible refine (spec_FpSub.calls 0 a0_1 t134 _ A10.out).mono ?_
  rintro e w' ⟨rfl, ⟨nd, rfl⟩⟩
  refine ⟨_, rfl, ?_⟩
  refine hK.out _ _ ⟨bc BK129 0, bc BK129 1, bc BK129 2⟩ (fun hHeld => ?_)
  clear hK K
  refine nO (some 10) ?_
  refine pure_ (i := 5) (N := some 11) (v := ?_) (a' := ?_) #[true, true, true, true, true, true, false] rfl rfl (by kernel_rfl) (fun _ _ _ h => h) (Or.inl ⟨by rfl, ?_⟩) ?_ ?_
  rotate_left
  ·intro w'
   go_simp
   with_reducible rfl
  rotate_left
  ·simp only [Act.put, List.setIfInBounds_toArray, List.set_cons_zero, List.set_cons_succ, i64_w, i32_w]
   rfl
  refine one_ (i := 6) (N := none) #[true, true, true, true, true, true, true] rfl rfl (by kernel_rfl) (by decide) (fun K hK => ?_)
  have hs16 : w15.cell? ⟨gb130, 0, none⟩ = some (.int .i64 0) := bc BK130 0
  have hfs16 := blk_frozen BK130.out 0
  have hns16_0 := NB129_130.out
  have hms16_0 := NB130_129.out
  have hs17 : w15.cell? ⟨gb130, 1, none⟩ = some (.int .i64 0) := bc BK130 1
  have hfs17 := blk_frozen BK130.out 1
  have hns17_0 := NB129_130.out
  have hms17_0 := NB130_129.out
  have hs18 : w15.cell? ⟨gb130, 2, none⟩ = some (.bool false) := bc BK130 2
  have hfs18 := blk_frozen BK130.out 2
  have hns18_0 := NB129_130.out
  have hms18_0 := NB130_129.out
  refine skip_ (w1 := ?_) (by rfl) rfl ?_ ?_
  rotate_left
  ·go_simp
   rfl
  refine hK.out _ _ ⟨((cell_far (p := ⟨gb130, _, none⟩) NB129_130.out _).trans (((cell_far (p := ⟨gb130, _, none⟩) NB129_130.out _).trans (((cell_far (p := ⟨gb130, _, none⟩) NB129_130.out _).trans (hHeld.1)))))), ((cell_far (p := ⟨gb130, _, none⟩) NB129_130.out _).trans (((cell_far (p := ⟨gb130, _, none⟩) NB129_130.out _).trans (((cell_far (p := ⟨gb130, _, none⟩) NB129_130.out _).trans (hHeld.2.1)))))), ((cell_far (p := ⟨gb130, _, none⟩) NB129_130.out _).trans (((cell_far (p := ⟨gb130, _, none⟩) NB129_130.out _).trans (((cell_far (p := ⟨gb130, _, none⟩) NB129_130.out _).trans (hHeld.2.2))))))⟩ (fun hHeld => ?_)
  clear hK K
  refine done_ (by kernel_rfl) ?_
  try go_wp2
  refine rC gb130 23 #[.int .i64 a0_0, .int .i64 t134, .bool false] (bU BK130) Tryd.underlying23 ?_
  exact ⟨rR, bZ HB⟩
/-! ### spec_FpPow: function 83 -/
def spec_FpPow.l0 : Nat → Int → Int → Int → Option (Int)
 | 0, _, _, _ => none
 | k + 1, x1, x5, x6 => if x1 > 0 then (if (Int.tmod x1 2) = 1 then ((spec_FpMul.f x5 x6).bind fun t105 => ((spec_FpMul.f x6 x6).bind fun t106 => (spec_FpPow.l0 k (wrap64 (Int.tdiv x1 2)) t105 t106))) else ((spec_FpMul.f x6 x6).bind fun t107 => (spec_FpPow.l0 k (wrap64 (Int.tdiv x1 2)) x5 t107))) else (some x5)
def spec_FpPow.f (k : Nat) (a0 : Int) (a1 : Int) : Option (Int) := if a1 < 0 then (some 0) else ((spec_FpOf.f a0).bind fun t104 => (spec_FpPow.l0 k a1 1 t104))
theorem spec_FpPow.mono_l : ∀ k, (∀ y0 y1 y2, LeO (spec_FpPow.l0 k y0 y1 y2) (spec_FpPow.l0 (k + 1) y0 y1 y2))
 | 0 => fun _ _ _ r h => by simp [spec_FpPow.l0] at h
 | k + 1 => by
  have ih0 := spec_FpPow.mono_l k
  ·intro y0 y1 y2
   unfold spec_FpPow.l0
   repeat' first
   | (with_reducible exact ih0 _ _ _)
   | (with_reducible exact LeO.refl _)
   | (with_reducible exact LeO.none _)
   | (with_reducible refine LeO.ite ?_ ?_)
   | (with_reducible refine LeO.bind ?_ (fun _ => ?_))
   | exact ih0 _ _ _
   | exact LeO.none _
   | refine LeO.ite ?_ ?_
   | refine LeO.bind ?_ (fun _ => ?_)
theorem spec_FpPow.mono : ∀ a0 a1 k, LeO (spec_FpPow.f k a0 a1) (spec_FpPow.f (k + 1) a0 a1) := by
 intro a0 a1 k
 have ih0 := spec_FpPow.mono_l k
 unfold spec_FpPow.f
 repeat' first
   | (with_reducible exact ih0 _ _ _)
   | (with_reducible exact LeO.refl _)
   | (with_reducible exact LeO.none _)
   | (with_reducible refine LeO.ite ?_ ?_)
   | (with_reducible refine LeO.bind ?_ (fun _ => ?_))
   | exact ih0 _ _ _
   | exact LeO.none _
   | refine LeO.ite ?_ ?_
   | refine LeO.bind ?_ (fun _ => ?_)
set_option maxHeartbeats 8000000 in
set_option maxRecDepth 100000 in
theorem spec_FpPow.calls (k : Nat) (a0 : Int) (a1 : Int) (r : Int) (w : World) (h : spec_FpPow.f k a0 a1 = some r) :
  Calls Tryd.prog 83 #[.int .i64 a0, .int .i64 a1] w fun e w' => e = .returned (.int .i64 r) ∧ Drawn0 w w' := by
 have H : (if a1 < 0 then (some 0) else ((spec_FpOf.f a0).bind fun t104 => (spec_FpPow.l0 k a1 1 t104))) = some r := h
 clear h
 by_cases c3 : a1 < 0
 ·rw [if_pos c3] at H
  have c3b0 : decide (a1 < 0) = true := decide_eq_true c3
  clear c3
  obtain rfl := Option.some.inj H
  go_enter Tryd.func83, Tryd.ntmps83
  go_wp2
  go_ret
  exact ⟨rS, rD⟩
 ·rw [if_neg c3] at H
  have c3b0 : decide (a1 < 0) = false := decide_eq_false c3
  clear c3
  replace H := Option.bind_eq_some_iff.mp H
  obtain ⟨t104, A40, H⟩ := H
  have A4 := Aside0.mk A40
  clear A40
  have H' := Aside0.mk H
  clear H
  go_enter Tryd.func83, Tryd.ntmps83
  go_wp2_with (first | ((with_reducible refine gate_callee (f := 42) rfl ?_); refine gL (some 10) Tryd.func42 #[.int .i64 a0] ?_; (with_reducible refine (spec_FpOf.calls a0 t104 _ A4.out).mono ?_); rintro e w' ⟨rfl, ⟨nd, rfl⟩⟩; refine ⟨_, rfl, ?_⟩))
  go_loopg [1, 5, 6] k (fun kq v1 v5 v6 w' => ∃ (x1_1 : Int) (x5_1 : Int) (x6_1 : Int), v1 = .int .i64 x1_1 ∧ v5 = .int .i64 x5_1 ∧ v6 = .int .i64 x6_1 ∧ Aside0 (spec_FpPow.l0 kq x1_1 x5_1 x6_1 = some r) ∧ Aside0 (kq ≤ k) ∧ Drawn0 w w')
  case atStart => exact ⟨(a1), (1), (t104), rS, rS, rS, H', ⟨Nat.le_refl _⟩, by repeat (first | exact Drawn0.refl _ | apply Drawn0.step)⟩
  case round =>
   clear H'
   try clear p2
   try clear c3
   try clear c3b0
   try clear c4
   obtain ⟨x1_1, x5_1, x6_1, rfl, rfl, rfl, HA, HK1, ⟨m1, rfl⟩⟩ := hrel
   cases gk with
   | zero => exact absurd HA.out (by simp [spec_FpPow.l0])
   | succ k1 =>
    have H := HA.out
    clear HA
    simp only [spec_FpPow.l0] at H
    by_cases c5 : x1_1 > 0
    ·rw [if_pos c5] at H
     have c5b0 : decide (0 < x1_1) = true := decide_eq_true c5
     clear c5
     by_cases c6 : (Int.tmod x1_1 2) = 1
     ·rw [if_pos c6] at H
      have c6b0 : ((Int.tmod x1_1 2) == 1) = true := beq_iff_eq.mpr c6
      have c6b1 : ((Int.tmod x1_1 2) != 1) = false := bne_eq_false_iff_eq.mpr c6
      clear c6
      replace H := Option.bind_eq_some_iff.mp H
      obtain ⟨t105, A70, H⟩ := H
      have A7 := Aside0.mk A70
      clear A70
      replace H := Option.bind_eq_some_iff.mp H
      obtain ⟨t106, A80, H⟩ := H
      have A8 := Aside0.mk A80
      clear A80
      have H' := Aside0.mk H
      clear H
      go_wp2_with (first | ((with_reducible refine gate_callee (f := 84) rfl ?_); refine gL (some 18) Tryd.func84 #[.int .i64 x5_1, .int .i64 x6_1] ?_; (with_reducible refine (spec_FpMul.calls x5_1 x6_1 t105 _ A7.out).mono ?_); rintro e w' ⟨rfl, ⟨nd, rfl⟩⟩; refine ⟨_, rfl, ?_⟩) | ((with_reducible refine gate_callee (f := 84) rfl ?_); refine gL (some 21) Tryd.func84 #[.int .i64 x6_1, .int .i64 x6_1] ?_; (with_reducible refine (spec_FpMul.calls x6_1 x6_1 t106 _ A8.out).mono ?_); rintro e w' ⟨rfl, ⟨nd, rfl⟩⟩; refine ⟨_, rfl, ?_⟩))
      go_roundg k1
      case measure => have := HK1.out; omega
      case rel => exact ⟨(wrap64 (Int.tdiv x1_1 2)), (t105), (t106), rS, rS, rS, H', ⟨by have := HK1.out; omega⟩, by repeat (first | exact Drawn0.refl _ | apply Drawn0.step)⟩
     ·rw [if_neg c6] at H
      have c6b0 : ((Int.tmod x1_1 2) == 1) = false := beq_eq_false_iff_ne.mpr c6
      have c6b1 : ((Int.tmod x1_1 2) != 1) = true := bne_iff_ne.mpr c6
      replace H := Option.bind_eq_some_iff.mp H
      obtain ⟨t107, A90, H⟩ := H
      have A9 := Aside0.mk A90
      clear A90
      have H' := Aside0.mk H
      clear H
      go_wp2_with (first | ((with_reducible refine gate_callee (f := 84) rfl ?_); refine gL (some 21) Tryd.func84 #[.int .i64 x6_1, .int .i64 x6_1] ?_; (with_reducible refine (spec_FpMul.calls x6_1 x6_1 t107 _ A9.out).mono ?_); rintro e w' ⟨rfl, ⟨nd, rfl⟩⟩; refine ⟨_, rfl, ?_⟩))
      go_roundg k1
      case measure => have := HK1.out; omega
      case rel => exact ⟨(wrap64 (Int.tdiv x1_1 2)), (x5_1), (t107), rS, rS, rS, H', ⟨by have := HK1.out; omega⟩, by repeat (first | exact Drawn0.refl _ | apply Drawn0.step)⟩
    ·rw [if_neg c5] at H
     have c5b0 : decide (0 < x1_1) = false := decide_eq_false c5
     clear c5
     obtain rfl := Option.some.inj H
     go_wp2
     go_ret
     exact ⟨rS, rD⟩
/-! ### spec_FpInv: function 131 -/
def spec_FpInv.f (k : Nat) (a0 : Int) : Option (Int) := (spec_FpPow.f k a0 12105).bind fun t135 => (some t135)
theorem spec_FpInv.mono : ∀ a0 k, LeO (spec_FpInv.f k a0) (spec_FpInv.f (k + 1) a0) := by
 intro a0 k
 unfold spec_FpInv.f
 repeat' first
   | (with_reducible exact spec_FpPow.mono _ _ _)
   | (with_reducible exact LeO.refl _)
   | (with_reducible exact LeO.none _)
   | (with_reducible refine LeO.ite ?_ ?_)
   | (with_reducible refine LeO.bind ?_ (fun _ => ?_))
   | exact spec_FpPow.mono _ _ _
   | exact LeO.none _
   | refine LeO.ite ?_ ?_
   | refine LeO.bind ?_ (fun _ => ?_)
set_option maxHeartbeats 8000000 in
set_option maxRecDepth 100000 in
theorem spec_FpInv.calls (k : Nat) (a0 : Int) (r : Int) (w : World) (h : spec_FpInv.f k a0 = some r) :
  Calls Tryd.prog 131 #[.int .i64 a0] w fun e w' => e = .returned (.int .i64 r) ∧ Drawn0 w w' := by
 have H : ((spec_FpPow.f k a0 12105).bind fun t135 => (some t135)) = some r := h
 clear h
 replace H := Option.bind_eq_some_iff.mp H
 obtain ⟨t135, A20, H⟩ := H
 have A2 := Aside0.mk A20
 clear A20
 obtain rfl := Option.some.inj H
 go_enter Tryd.func131, Tryd.ntmps131
 go_wp2_with (first | ((with_reducible refine gate_callee (f := 83) rfl ?_); refine gL (some 4) Tryd.func83 #[.int .i64 a0, .int .i64 12105] ?_; (with_reducible refine (spec_FpPow.calls k a0 12105 t135 _ A2.out).mono ?_); rintro e w' ⟨rfl, ⟨nd, rfl⟩⟩; refine ⟨_, rfl, ?_⟩))
 go_ret
 exact ⟨rS, rD⟩
/-! ### spec_l07Slope: function 120 -/
def spec_l07Slope.f (k : Nat) (a0_0 : Int) (a0_1 : Int) (a0_2 : Bool) (a1_0 : Int) (a1_1 : Int) (a1_2 : Bool) : Option (Int × Bool) := if a0_0 = a1_0 then ((spec_FpAdd.f a0_1 a1_1).bind fun t142 => (if t142 = 0 then (some (0, false)) else ((spec_FpMul.f a0_0 a0_0).bind fun t143 => ((spec_FpMul.f 3 t143).bind fun t144 => ((spec_FpAdd.f t144 1).bind fun t145 => ((spec_FpMul.f 2 a0_1).bind fun t146 => ((spec_FpInv.f k t146).bind fun t147 => ((spec_FpMul.f t145 t147).bind fun t148 => (some (t148, true)))))))))) else ((spec_FpSub.f a1_1 a0_1).bind fun t138 => ((spec_FpSub.f a1_0 a0_0).bind fun t139 => ((spec_FpInv.f k t139).bind fun t140 => ((spec_FpMul.f t138 t140).bind fun t141 => (some (t141, true))))))
theorem spec_l07Slope.mono : ∀ a0 a1 a2 a3 a4 a5 k, LeO (spec_l07Slope.f k a0 a1 a2 a3 a4 a5) (spec_l07Slope.f (k + 1) a0 a1 a2 a3 a4 a5) := by
 intro a0 a1 a2 a3 a4 a5 k
 unfold spec_l07Slope.f
 repeat' first
   | (with_reducible exact spec_FpInv.mono _ _)
   | (with_reducible exact LeO.refl _)
   | (with_reducible exact LeO.none _)
   | (with_reducible refine LeO.ite ?_ ?_)
   | (with_reducible refine LeO.bind ?_ (fun _ => ?_))
   | exact spec_FpInv.mono _ _
   | exact LeO.none _
   | refine LeO.ite ?_ ?_
   | refine LeO.bind ?_ (fun _ => ?_)
set_option maxHeartbeats 8000000 in
set_option maxRecDepth 100000 in
theorem spec_l07Slope.calls (k : Nat) (a0_0 : Int) (a0_1 : Int) (a0_2 : Bool) (a1_0 : Int) (a1_1 : Int) (a1_2 : Bool) (r1 : Int) (r2 : Bool) (w : World) (h : spec_l07Slope.f k a0_0 a0_1 a0_2 a1_0 a1_1 a1_2 = some (r1, r2)) :
  Calls Tryd.prog 120 #[.agg #[.int .i64 a0_0, .int .i64 a0_1, .bool a0_2], .agg #[.int .i64 a1_0, .int .i64 a1_1, .bool a1_2]] w fun e w' => e = .returned (.tuple #[.int .i64 r1, .bool r2]) ∧ Below w.heap.size w w' := by
 have hu23 := Tryd.underlying23
 have HB := Aside0.mk (Below.refl w.heap.size w)
 have H : (if a0_0 = a1_0 then ((spec_FpAdd.f a0_1 a1_1).bind fun t142 => (if t142 = 0 then (some (0, false)) else ((spec_FpMul.f a0_0 a0_0).bind fun t143 => ((spec_FpMul.f 3 t143).bind fun t144 => ((spec_FpAdd.f t144 1).bind fun t145 => ((spec_FpMul.f 2 a0_1).bind fun t146 => ((spec_FpInv.f k t146).bind fun t147 => ((spec_FpMul.f t145 t147).bind fun t148 => (some (t148, true)))))))))) else ((spec_FpSub.f a1_1 a0_1).bind fun t138 => ((spec_FpSub.f a1_0 a0_0).bind fun t139 => ((spec_FpInv.f k t139).bind fun t140 => ((spec_FpMul.f t138 t140).bind fun t141 => (some (t141, true))))))) = some (r1, r2) := h
 clear h
 by_cases c3 : a0_0 = a1_0
 ·rw [if_pos c3] at H
  have c3b0 : (a0_0 == a1_0) = true := beq_iff_eq.mpr c3
  have c3b1 : (a0_0 != a1_0) = false := bne_eq_false_iff_eq.mpr c3
  clear c3
  replace H := Option.bind_eq_some_iff.mp H
  obtain ⟨t142, A40, H⟩ := H
  have A4 := Aside0.mk A40
  clear A40
  by_cases c5 : t142 = 0
  ·rw [if_pos c5] at H
   have c5b0 : (t142 == 0) = true := beq_iff_eq.mpr c5
   have c5b1 : (t142 != 0) = false := bne_eq_false_iff_eq.mpr c5
   clear c5
   simp only [Option.some.injEq, Prod.mk.injEq] at H
   obtain ⟨rfl, rfl⟩ := H
   go_enter Tryd.func120, Tryd.ntmps120
   go_wp2_with (first | ((with_reducible refine gate_dst (N := 2) rfl ?_); refine bE 2 #[.int .i64 a0_0, .int .i64 a0_1, .bool a0_2] 23 ?_; intro gb136 hg w6 hbox hb; have BK136 := Aside0.mk (hbox); have GW136 := bG HB hg; have GE136 := bG HB hg; replace HB := bS HB hb; clear hb hbox hg) | ((with_reducible refine gate_dst (N := 3) rfl ?_); refine bE 3 #[.int .i64 a1_0, .int .i64 a1_1, .bool a1_2] 23 ?_; intro gb137 hg w7 hbox hb; have BK137 := Aside0.mk (hbox); have GW137 := bG HB hg; have GE137 := bG HB hg; replace HB := bS HB hb; have NB136_137 := bL BK136 hg; have NB137_136 := bR BK136 hg; replace BK136 := bB BK136 hb; clear hb hbox hg; have hnb8 := NB136_137.out; have hnc8 := NB137_136.out; obtain ⟨hcz9_0, hcz9_1, hcz9_2, hfz9_0, hfz9_1, hfz9_2⟩ := bK3 (w := w7) BK136; obtain ⟨hcz10_0, hcz10_1, hcz10_2, hfz10_0, hfz10_1, hfz10_2⟩ := bK3 (w := w7) BK137) | (go_at_call 86; (with_reducible refine (spec_FpAdd.calls a0_1 a1_1 t142 _ A4.out).mono ?_); rintro e w' ⟨rfl, ⟨nd, rfl⟩⟩; (try exact tD)))
   repeat (go_quiet (first | ((with_reducible refine gate_dst (N := 2) rfl ?_); refine bE 2 #[.int .i64 a0_0, .int .i64 a0_1, .bool a0_2] 23 ?_; intro gb136 hg w6 hbox hb; have BK136 := Aside0.mk (hbox); have GW136 := bG HB hg; have GE136 := bG HB hg; replace HB := bS HB hb; clear hb hbox hg) | ((with_reducible refine gate_dst (N := 3) rfl ?_); refine bE 3 #[.int .i64 a1_0, .int .i64 a1_1, .bool a1_2] 23 ?_; intro gb137 hg w7 hbox hb; have BK137 := Aside0.mk (hbox); have GW137 := bG HB hg; have GE137 := bG HB hg; replace HB := bS HB hb; have NB136_137 := bL BK136 hg; have NB137_136 := bR BK136 hg; replace BK136 := bB BK136 hb; clear hb hbox hg; have hnb8 := NB136_137.out; have hnc8 := NB137_136.out; obtain ⟨hcz9_0, hcz9_1, hcz9_2, hfz9_0, hfz9_1, hfz9_2⟩ := bK3 (w := w7) BK136; obtain ⟨hcz10_0, hcz10_1, hcz10_2, hfz10_0, hfz10_1, hfz10_2⟩ := bK3 (w := w7) BK137) | (go_at_call 86; (with_reducible refine (spec_FpAdd.calls a0_1 a1_1 t142 _ A4.out).mono ?_); rintro e w' ⟨rfl, ⟨nd, rfl⟩⟩; (try exact tD))); try go_wp2_with (first | ((with_reducible refine gate_dst (N := 2) rfl ?_); refine bE 2 #[.int .i64 a0_0, .int .i64 a0_1, .bool a0_2] 23 ?_; intro gb136 hg w6 hbox hb; have BK136 := Aside0.mk (hbox); have GW136 := bG HB hg; have GE136 := bG HB hg; replace HB := bS HB hb; clear hb hbox hg) | ((with_reducible refine gate_dst (N := 3) rfl ?_); refine bE 3 #[.int .i64 a1_0, .int .i64 a1_1, .bool a1_2] 23 ?_; intro gb137 hg w7 hbox hb; have BK137 := Aside0.mk (hbox); have GW137 := bG HB hg; have GE137 := bG HB hg; replace HB := bS HB hb; have NB136_137 := bL BK136 hg; have NB137_136 := bR BK136 hg; replace BK136 := bB BK136 hb; clear hb hbox hg; have hnb8 := NB136_137.out; have hnc8 := NB137_136.out; obtain ⟨hcz9_0, hcz9_1, hcz9_2, hfz9_0, hfz9_1, hfz9_2⟩ := bK3 (w := w7) BK136; obtain ⟨hcz10_0, hcz10_1, hcz10_2, hfz10_0, hfz10_1, hfz10_2⟩ := bK3 (w := w7) BK137) | (go_at_call 86; (with_reducible refine (spec_FpAdd.calls a0_1 a1_1 t142 _ A4.out).mono ?_); rintro e w' ⟨rfl, ⟨nd, rfl⟩⟩; (try exact tD))))
   go_ret2
   exact ⟨rR, bZ HB⟩
  ·rw [if_neg c5] at H
   have c5b0 : (t142 == 0) = false := beq_eq_false_iff_ne.mpr c5
   have c5b1 : (t142 != 0) = true := bne_iff_ne.mpr c5
   replace H := Option.bind_eq_some_iff.mp H
   obtain ⟨t143, A110, H⟩ := H
   have A11 := Aside0.mk A110
   clear A110
   replace H := Option.bind_eq_some_iff.mp H
   obtain ⟨t144, A120, H⟩ := H
   have A12 := Aside0.mk A120
   clear A120
   replace H := Option.bind_eq_some_iff.mp H
   obtain ⟨t145, A130, H⟩ := H
   have A13 := Aside0.mk A130
   clear A130
   replace H := Option.bind_eq_some_iff.mp H
   obtain ⟨t146, A140, H⟩ := H
   have A14 := Aside0.mk A140
   clear A140
   replace H := Option.bind_eq_some_iff.mp H
   obtain ⟨t147, A150, H⟩ := H
   have A15 := Aside0.mk A150
   clear A150
   replace H := Option.bind_eq_some_iff.mp H
   obtain ⟨t148, A160, H⟩ := H
   have A16 := Aside0.mk A160
   clear A160
   simp only [Option.some.injEq, Prod.mk.injEq] at H
   obtain ⟨rfl, rfl⟩ := H
   go_enter Tryd.func120, Tryd.ntmps120
   go_wp2_with (first | ((with_reducible refine gate_dst (N := 2) rfl ?_); refine bE 2 #[.int .i64 a0_0, .int .i64 a0_1, .bool a0_2] 23 ?_; intro gb136 hg w17 hbox hb; have BK136 := Aside0.mk (hbox); have GW136 := bG HB hg; have GE136 := bG HB hg; replace HB := bS HB hb; clear hb hbox hg) | ((with_reducible refine gate_dst (N := 3) rfl ?_); refine bE 3 #[.int .i64 a1_0, .int .i64 a1_1, .bool a1_2] 23 ?_; intro gb137 hg w18 hbox hb; have BK137 := Aside0.mk (hbox); have GW137 := bG HB hg; have GE137 := bG HB hg; replace HB := bS HB hb; have NB136_137 := bL BK136 hg; have NB137_136 := bR BK136 hg; replace BK136 := bB BK136 hb; clear hb hbox hg; have hnb19 := NB136_137.out; have hnc19 := NB137_136.out; obtain ⟨hcz20_0, hcz20_1, hcz20_2, hfz20_0, hfz20_1, hfz20_2⟩ := bK3 (w := w18) BK136; obtain ⟨hcz21_0, hcz21_1, hcz21_2, hfz21_0, hfz21_1, hfz21_2⟩ := bK3 (w := w18) BK137) | (go_at_call 86; (with_reducible refine (spec_FpAdd.calls a0_1 a1_1 t142 _ A4.out).mono ?_); rintro e w' ⟨rfl, ⟨nd, rfl⟩⟩; (try exact tD)) | (go_at_call 84; (with_reducible refine (spec_FpMul.calls a0_0 a0_0 t143 _ A11.out).mono ?_); rintro e w' ⟨rfl, ⟨nd, rfl⟩⟩; (try exact tD)) | (go_at_call 84; (with_reducible refine (spec_FpMul.calls 3 t143 t144 _ A12.out).mono ?_); rintro e w' ⟨rfl, ⟨nd, rfl⟩⟩; (try exact tD)) | (go_at_call 86; (with_reducible refine (spec_FpAdd.calls t144 1 t145 _ A13.out).mono ?_); rintro e w' ⟨rfl, ⟨nd, rfl⟩⟩; (try exact tD)) | (go_at_call 84; (with_reducible refine (spec_FpMul.calls 2 a0_1 t146 _ A14.out).mono ?_); rintro e w' ⟨rfl, ⟨nd, rfl⟩⟩; (try exact tD)) | (go_at_call 131; (with_reducible refine (spec_FpInv.calls k t146 t147 _ A15.out).mono ?_); rintro e w' ⟨rfl, ⟨nd, rfl⟩⟩; (try exact tD)) | (go_at_call 84; (with_reducible refine (spec_FpMul.calls t145 t147 t148 _ A16.out).mono ?_); rintro e w' ⟨rfl, ⟨nd, rfl⟩⟩; (try exact tD)))
   repeat (go_quiet (first | ((with_reducible refine gate_dst (N := 2) rfl ?_); refine bE 2 #[.int .i64 a0_0, .int .i64 a0_1, .bool a0_2] 23 ?_; intro gb136 hg w17 hbox hb; have BK136 := Aside0.mk (hbox); have GW136 := bG HB hg; have GE136 := bG HB hg; replace HB := bS HB hb; clear hb hbox hg) | ((with_reducible refine gate_dst (N := 3) rfl ?_); refine bE 3 #[.int .i64 a1_0, .int .i64 a1_1, .bool a1_2] 23 ?_; intro gb137 hg w18 hbox hb; have BK137 := Aside0.mk (hbox); have GW137 := bG HB hg; have GE137 := bG HB hg; replace HB := bS HB hb; have NB136_137 := bL BK136 hg; have NB137_136 := bR BK136 hg; replace BK136 := bB BK136 hb; clear hb hbox hg; have hnb19 := NB136_137.out; have hnc19 := NB137_136.out; obtain ⟨hcz20_0, hcz20_1, hcz20_2, hfz20_0, hfz20_1, hfz20_2⟩ := bK3 (w := w18) BK136; obtain ⟨hcz21_0, hcz21_1, hcz21_2, hfz21_0, hfz21_1, hfz21_2⟩ := bK3 (w := w18) BK137) | (go_at_call 86; (with_reducible refine (spec_FpAdd.calls a0_1 a1_1 t142 _ A4.out).mono ?_); rintro e w' ⟨rfl, ⟨nd, rfl⟩⟩; (try exact tD)) | (go_at_call 84; (with_reducible refine (spec_FpMul.calls a0_0 a0_0 t143 _ A11.out).mono ?_); rintro e w' ⟨rfl, ⟨nd, rfl⟩⟩; (try exact tD)) | (go_at_call 84; (with_reducible refine (spec_FpMul.calls 3 t143 t144 _ A12.out).mono ?_); rintro e w' ⟨rfl, ⟨nd, rfl⟩⟩; (try exact tD)) | (go_at_call 86; (with_reducible refine (spec_FpAdd.calls t144 1 t145 _ A13.out).mono ?_); rintro e w' ⟨rfl, ⟨nd, rfl⟩⟩; (try exact tD)) | (go_at_call 84; (with_reducible refine (spec_FpMul.calls 2 a0_1 t146 _ A14.out).mono ?_); rintro e w' ⟨rfl, ⟨nd, rfl⟩⟩; (try exact tD)) | (go_at_call 131; (with_reducible refine (spec_FpInv.calls k t146 t147 _ A15.out).mono ?_); rintro e w' ⟨rfl, ⟨nd, rfl⟩⟩; (try exact tD)) | (go_at_call 84; (with_reducible refine (spec_FpMul.calls t145 t147 t148 _ A16.out).mono ?_); rintro e w' ⟨rfl, ⟨nd, rfl⟩⟩; (try exact tD))); try go_wp2_with (first | ((with_reducible refine gate_dst (N := 2) rfl ?_); refine bE 2 #[.int .i64 a0_0, .int .i64 a0_1, .bool a0_2] 23 ?_; intro gb136 hg w17 hbox hb; have BK136 := Aside0.mk (hbox); have GW136 := bG HB hg; have GE136 := bG HB hg; replace HB := bS HB hb; clear hb hbox hg) | ((with_reducible refine gate_dst (N := 3) rfl ?_); refine bE 3 #[.int .i64 a1_0, .int .i64 a1_1, .bool a1_2] 23 ?_; intro gb137 hg w18 hbox hb; have BK137 := Aside0.mk (hbox); have GW137 := bG HB hg; have GE137 := bG HB hg; replace HB := bS HB hb; have NB136_137 := bL BK136 hg; have NB137_136 := bR BK136 hg; replace BK136 := bB BK136 hb; clear hb hbox hg; have hnb19 := NB136_137.out; have hnc19 := NB137_136.out; obtain ⟨hcz20_0, hcz20_1, hcz20_2, hfz20_0, hfz20_1, hfz20_2⟩ := bK3 (w := w18) BK136; obtain ⟨hcz21_0, hcz21_1, hcz21_2, hfz21_0, hfz21_1, hfz21_2⟩ := bK3 (w := w18) BK137) | (go_at_call 86; (with_reducible refine (spec_FpAdd.calls a0_1 a1_1 t142 _ A4.out).mono ?_); rintro e w' ⟨rfl, ⟨nd, rfl⟩⟩; (try exact tD)) | (go_at_call 84; (with_reducible refine (spec_FpMul.calls a0_0 a0_0 t143 _ A11.out).mono ?_); rintro e w' ⟨rfl, ⟨nd, rfl⟩⟩; (try exact tD)) | (go_at_call 84; (with_reducible refine (spec_FpMul.calls 3 t143 t144 _ A12.out).mono ?_); rintro e w' ⟨rfl, ⟨nd, rfl⟩⟩; (try exact tD)) | (go_at_call 86; (with_reducible refine (spec_FpAdd.calls t144 1 t145 _ A13.out).mono ?_); rintro e w' ⟨rfl, ⟨nd, rfl⟩⟩; (try exact tD)) | (go_at_call 84; (with_reducible refine (spec_FpMul.calls 2 a0_1 t146 _ A14.out).mono ?_); rintro e w' ⟨rfl, ⟨nd, rfl⟩⟩; (try exact tD)) | (go_at_call 131; (with_reducible refine (spec_FpInv.calls k t146 t147 _ A15.out).mono ?_); rintro e w' ⟨rfl, ⟨nd, rfl⟩⟩; (try exact tD)) | (go_at_call 84; (with_reducible refine (spec_FpMul.calls t145 t147 t148 _ A16.out).mono ?_); rintro e w' ⟨rfl, ⟨nd, rfl⟩⟩; (try exact tD))))
   go_ret2
   exact ⟨rR, bZ HB⟩
 ·rw [if_neg c3] at H
  have c3b0 : (a0_0 == a1_0) = false := beq_eq_false_iff_ne.mpr c3
  have c3b1 : (a0_0 != a1_0) = true := bne_iff_ne.mpr c3
  replace H := Option.bind_eq_some_iff.mp H
  obtain ⟨t138, A220, H⟩ := H
  have A22 := Aside0.mk A220
  clear A220
  replace H := Option.bind_eq_some_iff.mp H
  obtain ⟨t139, A230, H⟩ := H
  have A23 := Aside0.mk A230
  clear A230
  replace H := Option.bind_eq_some_iff.mp H
  obtain ⟨t140, A240, H⟩ := H
  have A24 := Aside0.mk A240
  clear A240
  replace H := Option.bind_eq_some_iff.mp H
  obtain ⟨t141, A250, H⟩ := H
  have A25 := Aside0.mk A250
  clear A250
  simp only [Option.some.injEq, Prod.mk.injEq] at H
  obtain ⟨rfl, rfl⟩ := H
  go_enter Tryd.func120, Tryd.ntmps120
  go_wp2_with (first | ((with_reducible refine gate_dst (N := 2) rfl ?_); refine bE 2 #[.int .i64 a0_0, .int .i64 a0_1, .bool a0_2] 23 ?_; intro gb136 hg w26 hbox hb; have BK136 := Aside0.mk (hbox); have GW136 := bG HB hg; have GE136 := bG HB hg; replace HB := bS HB hb; clear hb hbox hg) | ((with_reducible refine gate_dst (N := 3) rfl ?_); refine bE 3 #[.int .i64 a1_0, .int .i64 a1_1, .bool a1_2] 23 ?_; intro gb137 hg w27 hbox hb; have BK137 := Aside0.mk (hbox); have GW137 := bG HB hg; have GE137 := bG HB hg; replace HB := bS HB hb; have NB136_137 := bL BK136 hg; have NB137_136 := bR BK136 hg; replace BK136 := bB BK136 hb; clear hb hbox hg; have hnb28 := NB136_137.out; have hnc28 := NB137_136.out; obtain ⟨hcz29_0, hcz29_1, hcz29_2, hfz29_0, hfz29_1, hfz29_2⟩ := bK3 (w := w27) BK136; obtain ⟨hcz30_0, hcz30_1, hcz30_2, hfz30_0, hfz30_1, hfz30_2⟩ := bK3 (w := w27) BK137) | (go_at_call 85; (with_reducible refine (spec_FpSub.calls a1_1 a0_1 t138 _ A22.out).mono ?_); rintro e w' ⟨rfl, ⟨nd, rfl⟩⟩; (try exact tD)) | (go_at_call 85; (with_reducible refine (spec_FpSub.calls a1_0 a0_0 t139 _ A23.out).mono ?_); rintro e w' ⟨rfl, ⟨nd, rfl⟩⟩; (try exact tD)) | (go_at_call 131; (with_reducible refine (spec_FpInv.calls k t139 t140 _ A24.out).mono ?_); rintro e w' ⟨rfl, ⟨nd, rfl⟩⟩; (try exact tD)) | (go_at_call 84; (with_reducible refine (spec_FpMul.calls t138 t140 t141 _ A25.out).mono ?_); rintro e w' ⟨rfl, ⟨nd, rfl⟩⟩; (try exact tD)))
  repeat (go_quiet (first | ((with_reducible refine gate_dst (N := 2) rfl ?_); refine bE 2 #[.int .i64 a0_0, .int .i64 a0_1, .bool a0_2] 23 ?_; intro gb136 hg w26 hbox hb; have BK136 := Aside0.mk (hbox); have GW136 := bG HB hg; have GE136 := bG HB hg; replace HB := bS HB hb; clear hb hbox hg) | ((with_reducible refine gate_dst (N := 3) rfl ?_); refine bE 3 #[.int .i64 a1_0, .int .i64 a1_1, .bool a1_2] 23 ?_; intro gb137 hg w27 hbox hb; have BK137 := Aside0.mk (hbox); have GW137 := bG HB hg; have GE137 := bG HB hg; replace HB := bS HB hb; have NB136_137 := bL BK136 hg; have NB137_136 := bR BK136 hg; replace BK136 := bB BK136 hb; clear hb hbox hg; have hnb28 := NB136_137.out; have hnc28 := NB137_136.out; obtain ⟨hcz29_0, hcz29_1, hcz29_2, hfz29_0, hfz29_1, hfz29_2⟩ := bK3 (w := w27) BK136; obtain ⟨hcz30_0, hcz30_1, hcz30_2, hfz30_0, hfz30_1, hfz30_2⟩ := bK3 (w := w27) BK137) | (go_at_call 85; (with_reducible refine (spec_FpSub.calls a1_1 a0_1 t138 _ A22.out).mono ?_); rintro e w' ⟨rfl, ⟨nd, rfl⟩⟩; (try exact tD)) | (go_at_call 85; (with_reducible refine (spec_FpSub.calls a1_0 a0_0 t139 _ A23.out).mono ?_); rintro e w' ⟨rfl, ⟨nd, rfl⟩⟩; (try exact tD)) | (go_at_call 131; (with_reducible refine (spec_FpInv.calls k t139 t140 _ A24.out).mono ?_); rintro e w' ⟨rfl, ⟨nd, rfl⟩⟩; (try exact tD)) | (go_at_call 84; (with_reducible refine (spec_FpMul.calls t138 t140 t141 _ A25.out).mono ?_); rintro e w' ⟨rfl, ⟨nd, rfl⟩⟩; (try exact tD))); try go_wp2_with (first | ((with_reducible refine gate_dst (N := 2) rfl ?_); refine bE 2 #[.int .i64 a0_0, .int .i64 a0_1, .bool a0_2] 23 ?_; intro gb136 hg w26 hbox hb; have BK136 := Aside0.mk (hbox); have GW136 := bG HB hg; have GE136 := bG HB hg; replace HB := bS HB hb; clear hb hbox hg) | ((with_reducible refine gate_dst (N := 3) rfl ?_); refine bE 3 #[.int .i64 a1_0, .int .i64 a1_1, .bool a1_2] 23 ?_; intro gb137 hg w27 hbox hb; have BK137 := Aside0.mk (hbox); have GW137 := bG HB hg; have GE137 := bG HB hg; replace HB := bS HB hb; have NB136_137 := bL BK136 hg; have NB137_136 := bR BK136 hg; replace BK136 := bB BK136 hb; clear hb hbox hg; have hnb28 := NB136_137.out; have hnc28 := NB137_136.out; obtain ⟨hcz29_0, hcz29_1, hcz29_2, hfz29_0, hfz29_1, hfz29_2⟩ := bK3 (w := w27) BK136; obtain ⟨hcz30_0, hcz30_1, hcz30_2, hfz30_0, hfz30_1, hfz30_2⟩ := bK3 (w := w27) BK137) | (go_at_call 85; (with_reducible refine (spec_FpSub.calls a1_1 a0_1 t138 _ A22.out).mono ?_); rintro e w' ⟨rfl, ⟨nd, rfl⟩⟩; (try exact tD)) | (go_at_call 85; (with_reducible refine (spec_FpSub.calls a1_0 a0_0 t139 _ A23.out).mono ?_); rintro e w' ⟨rfl, ⟨nd, rfl⟩⟩; (try exact tD)) | (go_at_call 131; (with_reducible refine (spec_FpInv.calls k t139 t140 _ A24.out).mono ?_); rintro e w' ⟨rfl, ⟨nd, rfl⟩⟩; (try exact tD)) | (go_at_call 84; (with_reducible refine (spec_FpMul.calls t138 t140 t141 _ A25.out).mono ?_); rintro e w' ⟨rfl, ⟨nd, rfl⟩⟩; (try exact tD))))
  go_ret2
  exact ⟨rR, bZ HB⟩
/-! ### spec_l07Add: function 89 -/
def spec_l07Add.f (k : Nat) (a0_0 : Int) (a0_1 : Int) (a0_2 : Bool) (a1_0 : Int) (a1_1 : Int) (a1_2 : Bool) : Option (Int × Int × Bool) := if a0_2 = true then (some (a1_0, a1_1, a1_2)) else (if a1_2 = true then (some (a0_0, a0_1, a0_2)) else ((spec_l07Slope.f k a0_0 a0_1 a0_2 a1_0 a1_1 a1_2).bind fun bt152 => (if bt152.2 = true then ((spec_FpMul.f bt152.1 bt152.1).bind fun t157 => ((spec_FpSub.f t157 a0_0).bind fun t158 => ((spec_FpSub.f t158 a1_0).bind fun t159 => ((spec_FpSub.f a0_0 t159).bind fun t160 => ((spec_FpMul.f bt152.1 t160).bind fun t161 => ((spec_FpSub.f t161 a0_1).bind fun t162 => (some (t159, t162, false)))))))) else ((spec_l07Zero.f).bind fun bt154 => (some (bt154.1, bt154.2.1, bt154.2.2))))))
theorem spec_l07Add.mono : ∀ a0 a1 a2 a3 a4 a5 k, LeO (spec_l07Add.f k a0 a1 a2 a3 a4 a5) (spec_l07Add.f (k + 1) a0 a1 a2 a3 a4 a5) := by
 intro a0 a1 a2 a3 a4 a5 k
 unfold spec_l07Add.f
 repeat' first
   | (with_reducible exact spec_l07Slope.mono _ _ _ _ _ _ _)
   | (with_reducible exact LeO.refl _)
   | (with_reducible exact LeO.none _)
   | (with_reducible refine LeO.ite ?_ ?_)
   | (with_reducible refine LeO.bind ?_ (fun _ => ?_))
   | exact spec_l07Slope.mono _ _ _ _ _ _ _
   | exact LeO.none _
   | refine LeO.ite ?_ ?_
   | refine LeO.bind ?_ (fun _ => ?_)
def spec_l07Add.T8 : Bool × List (List Nat × List Nat) := (true, [([], []), ([], []), ([0, 1], [0, 1]), ([], []), ([3], [3]), ([2, 4, 2], [2, 4]), ([], []), ([6], [6]), ([5, 7, 5], [5, 7]), ([8, 8, 0, 1, 2, 3, 4, 5, 6, 7, 8], [8])])
def spec_l07Add.B8 : List Nat := [0, 0, 3, 0, 8, 31, 0, 64, 255, 511]
theorem spec_l07Add.tab8 : rtab .any (opsOf Tryd.f89 8) = spec_l07Add.T8 := by kernel_rfl
theorem spec_l07Add.bits8 : waitsOk spec_l07Add.T8.2 spec_l07Add.B8 = true := by kernel_rfl
def spec_l07Add.T9 : Bool × List (List Nat × List Nat) := (true, [([], []), ([], []), ([], []), ([2], [2]), ([], []), ([3, 4], [3, 4]), ([1, 5, 5], [1, 5]), ([], []), ([7], [7]), ([6, 8, 6], [6, 8]), ([0, 9], [0, 9]), ([10, 9, 0, 1, 2, 3, 4, 5, 6, 7, 8, 9, 10], [10])])
def spec_l07Add.B9 : List Nat := [0, 0, 0, 4, 0, 28, 62, 0, 128, 510, 1023, 2047]
theorem spec_l07Add.tab9 : rtab .any (opsOf Tryd.f89 9) = spec_l07Add.T9 := by kernel_rfl
theorem spec_l07Add.bits9 : waitsOk spec_l07Add.T9.2 spec_l07Add.B9 = true := by kernel_rfl
set_option maxHeartbeats 8000000 in
set_option maxRecDepth 100000 in
theorem spec_l07Add.calls (k : Nat) (a0_0 : Int) (a0_1 : Int) (a0_2 : Bool) (a1_0 : Int) (a1_1 : Int) (a1_2 : Bool) (r1 : Int) (r2 : Int) (r3 : Bool) (w : World) (h : spec_l07Add.f k a0_0 a0_1 a0_2 a1_0 a1_1 a1_2 = some (r1, r2, r3)) :
  Calls Tryd.prog 89 #[.agg #[.int .i64 a0_0, .int .i64 a0_1, .bool a0_2], .agg #[.int .i64 a1_0, .int .i64 a1_1, .bool a1_2]] w fun e w' => e = .returned (.agg #[.int .i64 r1, .int .i64 r2, .bool r3]) ∧ Below w.heap.size w w' := by
 have hu23 := Tryd.underlying23
 have HB := Aside0.mk (Below.refl w.heap.size w)
 have H : (if a0_2 = true then (some (a1_0, a1_1, a1_2)) else (if a1_2 = true then (some (a0_0, a0_1, a0_2)) else ((spec_l07Slope.f k a0_0 a0_1 a0_2 a1_0 a1_1 a1_2).bind fun bt152 => (if bt152.2 = true then ((spec_FpMul.f bt152.1 bt152.1).bind fun t157 => ((spec_FpSub.f t157 a0_0).bind fun t158 => ((spec_FpSub.f t158 a1_0).bind fun t159 => ((spec_FpSub.f a0_0 t159).bind fun t160 => ((spec_FpMul.f bt152.1 t160).bind fun t161 => ((spec_FpSub.f t161 a0_1).bind fun t162 => (some (t159, t162, false)))))))) else ((spec_l07Zero.f).bind fun bt154 => (some (bt154.1, bt154.2.1, bt154.2.2))))))) = some (r1, r2, r3) := h
 clear h
 by_cases c3 : a0_2 = true
 ·subst c3
  rw [if_pos rfl] at H
  simp only [Option.some.injEq, Prod.mk.injEq] at H
  obtain ⟨rfl, rfl, rfl⟩ := H
  go_enter Tryd.func89, Tryd.ntmps89
  go_wp2_with (first | ((with_reducible refine gate_dst (N := 2) rfl ?_); refine bE 2 #[.int .i64 a0_0, .int .i64 a0_1, .bool true] 23 ?_; intro gb149 hg w4 hbox hb; have BK149 := Aside0.mk (hbox); have GW149 := bG HB hg; have GE149 := bG HB hg; replace HB := bS HB hb; clear hb hbox hg) | ((with_reducible refine gate_dst (N := 3) rfl ?_); refine bE 3 #[.int .i64 a1_0, .int .i64 a1_1, .bool a1_2] 23 ?_; intro gb150 hg w5 hbox hb; have BK150 := Aside0.mk (hbox); have GW150 := bG HB hg; have GE150 := bG HB hg; replace HB := bS HB hb; have NB149_150 := bL BK149 hg; have NB150_149 := bR BK149 hg; replace BK149 := bB BK149 hb; clear hb hbox hg) | ((with_reducible refine gate_dst (N := 4) rfl ?_); refine bE 4 #[.int .i64 0, .int .i64 0, .bool false] 23 ?_; intro gb151 hg w6 hbox hb; have BK151 := Aside0.mk (hbox); have GW151 := bG HB hg; have GE151 := bG HB hg; replace HB := bS HB hb; have NB149_151 := bL BK149 hg; have NB151_149 := bR BK149 hg; replace BK149 := bB BK149 hb; have NB150_151 := bL BK150 hg; have NB151_150 := bR BK150 hg; replace BK150 := bB BK150 hb; clear hb hbox hg; have hnb7 := NB149_150.out; have hnc7 := NB150_149.out; have hnb8 := NB149_151.out; have hnc8 := NB151_149.out; obtain ⟨hcz9_0, hcz9_1, hcz9_2, hfz9_0, hfz9_1, hfz9_2⟩ := bK3 (w := w6) BK149; have hnb10 := NB150_151.out; have hnc10 := NB151_150.out; obtain ⟨hcz11_0, hcz11_1, hcz11_2, hfz11_0, hfz11_1, hfz11_2⟩ := bK3 (w := w6) BK150; obtain ⟨hcz12_0, hcz12_1, hcz12_2, hfz12_0, hfz12_1, hfz12_2⟩ := bK3 (w := w6) BK151))
  refine rC gb151 23 #[.int .i64 a1_0, .int .i64 a1_1, .bool a1_2] (bU BK151) Tryd.underlying23 ?_
  exact ⟨rR, bZ HB⟩
 ·replace c3 := Bool.eq_false_iff.mpr c3
  subst c3
  rw [if_neg (show ¬ (false = true) by decide)] at H
  by_cases c13 : a1_2 = true
  ·subst c13
   rw [if_pos rfl] at H
   simp only [Option.some.injEq, Prod.mk.injEq] at H
   obtain ⟨rfl, rfl, rfl⟩ := H
   go_enter Tryd.func89, Tryd.ntmps89
   go_wp2_with (first | ((with_reducible refine gate_dst (N := 2) rfl ?_); refine bE 2 #[.int .i64 a0_0, .int .i64 a0_1, .bool false] 23 ?_; intro gb149 hg w14 hbox hb; have BK149 := Aside0.mk (hbox); have GW149 := bG HB hg; have GE149 := bG HB hg; replace HB := bS HB hb; clear hb hbox hg) | ((with_reducible refine gate_dst (N := 3) rfl ?_); refine bE 3 #[.int .i64 a1_0, .int .i64 a1_1, .bool true] 23 ?_; intro gb150 hg w15 hbox hb; have BK150 := Aside0.mk (hbox); have GW150 := bG HB hg; have GE150 := bG HB hg; replace HB := bS HB hb; have NB149_150 := bL BK149 hg; have NB150_149 := bR BK149 hg; replace BK149 := bB BK149 hb; clear hb hbox hg) | ((with_reducible refine gate_dst (N := 4) rfl ?_); refine bE 4 #[.int .i64 0, .int .i64 0, .bool false] 23 ?_; intro gb151 hg w16 hbox hb; have BK151 := Aside0.mk (hbox); have GW151 := bG HB hg; have GE151 := bG HB hg; replace HB := bS HB hb; have NB149_151 := bL BK149 hg; have NB151_149 := bR BK149 hg; replace BK149 := bB BK149 hb; have NB150_151 := bL BK150 hg; have NB151_150 := bR BK150 hg; replace BK150 := bB BK150 hb; clear hb hbox hg; have hnb17 := NB149_150.out; have hnc17 := NB150_149.out; have hnb18 := NB149_151.out; have hnc18 := NB151_149.out; obtain ⟨hcz19_0, hcz19_1, hcz19_2, hfz19_0, hfz19_1, hfz19_2⟩ := bK3 (w := w16) BK149; have hnb20 := NB150_151.out; have hnc20 := NB151_150.out; obtain ⟨hcz21_0, hcz21_1, hcz21_2, hfz21_0, hfz21_1, hfz21_2⟩ := bK3 (w := w16) BK150; obtain ⟨hcz22_0, hcz22_1, hcz22_2, hfz22_0, hfz22_1, hfz22_2⟩ := bK3 (w := w16) BK151))
   refine rC gb151 23 #[.int .i64 a0_0, .int .i64 a0_1, .bool false] (bU BK151) Tryd.underlying23 ?_
   exact ⟨rR, bZ HB⟩
  ·replace c13 := Bool.eq_false_iff.mpr c13
   subst c13
   rw [if_neg (show ¬ (false = true) by decide)] at H
   replace H := Option.bind_eq_some_iff.mp H
   obtain ⟨⟨t152, t153⟩, A230, H⟩ := H
   have A23 := Aside0.mk A230
   clear A230
   by_cases c24 : t153 = true
   ·subst c24
    rw [if_pos rfl] at H
    replace H := Option.bind_eq_some_iff.mp H
    obtain ⟨t157, A250, H⟩ := H
    have A25 := Aside0.mk A250
    clear A250
    replace H := Option.bind_eq_some_iff.mp H
    obtain ⟨t158, A260, H⟩ := H
    have A26 := Aside0.mk A260
    clear A260
    replace H := Option.bind_eq_some_iff.mp H
    obtain ⟨t159, A270, H⟩ := H
    have A27 := Aside0.mk A270
    clear A270
    replace H := Option.bind_eq_some_iff.mp H
    obtain ⟨t160, A280, H⟩ := H
    have A28 := Aside0.mk A280
    clear A280
    replace H := Option.bind_eq_some_iff.mp H
    obtain ⟨t161, A290, H⟩ := H
    have A29 := Aside0.mk A290
    clear A290
    replace H := Option.bind_eq_some_iff.mp H
    obtain ⟨t162, A300, H⟩ := H
    have A30 := Aside0.mk A300
    clear A300
    simp only [Option.some.injEq, Prod.mk.injEq] at H
    obtain ⟨rfl, rfl, rfl⟩ := H
    go_enter Tryd.func89, Tryd.ntmps89
    try go_wp2_with (first | ((with_reducible refine gate_dst (N := 2) rfl ?_); refine bE 2 #[.int .i64 a0_0, .int .i64 a0_1, .bool false] 23 ?_; intro gb149 hg w31 hbox hb; have BK149 := Aside0.mk (hbox); have GW149 := bG HB hg; have GE149 := bG HB hg; replace HB := bS HB hb; clear hb hbox hg) | ((with_reducible refine gate_dst (N := 3) rfl ?_); refine bE 3 #[.int .i64 a1_0, .int .i64 a1_1, .bool false] 23 ?_; intro gb150 hg w32 hbox hb; have BK150 := Aside0.mk (hbox); have GW150 := bG HB hg; have GE150 := bG HB hg; replace HB := bS HB hb; have NB149_150 := bL BK149 hg; have NB150_149 := bR BK149 hg; replace BK149 := bB BK149 hb; clear hb hbox hg) | ((with_reducible refine gate_dst (N := 4) rfl ?_); refine bE 4 #[.int .i64 0, .int .i64 0, .bool false] 23 ?_; intro gb151 hg w33 hbox hb; have BK151 := Aside0.mk (hbox); have GW151 := bG HB hg; have GE151 := bG HB hg; replace HB := bS HB hb; have NB149_151 := bL BK149 hg; have NB151_149 := bR BK149 hg; replace BK149 := bB BK149 hb; have NB150_151 := bL BK150 hg; have NB151_150 := bR BK150 hg; replace BK150 := bB BK150 hb; clear hb hbox hg; have hnb34 := NB149_150.out; have hnc34 := NB150_149.out; have hnb35 := NB149_151.out; have hnc35 := NB151_149.out; obtain ⟨hcz36_0, hcz36_1, hcz36_2, hfz36_0, hfz36_1, hfz36_2⟩ := bK3 (w := w33) BK149; have hnb37 := NB150_151.out; have hnc37 := NB151_150.out; obtain ⟨hcz38_0, hcz38_1, hcz38_2, hfz38_0, hfz38_1, hfz38_2⟩ := bK3 (w := w33) BK150) | ((with_reducible refine gate_callee (f := 120) rfl ?_); refine gL (some 17) Tryd.func120 #[.agg #[.int .i64 a0_0, .int .i64 a0_1, .bool false], .agg #[.int .i64 a1_0, .int .i64 a1_1, .bool false]] ?_; (with_reducible refine (spec_l07Slope.calls k a0_0 a0_1 false a1_0 a1_1 false t152 true _ A23.out).mono ?_); rintro e w39 ⟨rfl, hb⟩; refine ⟨_, rfl, ?_⟩; replace BK149 := bB BK149 hb; replace BK150 := bB BK150 hb; replace BK151 := bB BK151 hb; replace HB := bS HB hb; (try clear hb)))
    replace BK149 := Aside0.mk (blk_drew BK149.out)
    replace BK150 := Aside0.mk (blk_drew BK150.out)
    replace BK151 := Aside0.mk (blk_drew BK151.out)
    replace HB := Aside0.mk (below_drew1 HB.out)
    refine start_ (n := 10) (S := fun w' => w'.cell? ⟨gb149, 0, none⟩ = some (.int .i64 a0_0) ∧ w'.cell? ⟨gb149, 1, none⟩ = some (.int .i64 a0_1) ∧ w'.cell? ⟨gb149, 2, none⟩ = some (.bool false) ∧ w'.cell? ⟨gb150, 0, none⟩ = some (.int .i64 a1_0) ∧ w'.cell? ⟨gb150, 1, none⟩ = some (.int .i64 a1_1) ∧ w'.cell? ⟨gb150, 2, none⟩ = some (.bool false)) (ds := []) #[false, false, false, false, false, false, false, false, false, false] (by kernel_rfl) rfl rfl ⟨bc BK149 0, bc BK149 1, bc BK149 2, bc BK150 0, bc BK150 1, bc BK150 2⟩ (fun hHeld => ?_); refine with_tabW spec_l07Add.tab8 spec_l07Add.bits8 (fun HT_ HW_ => ?_)
    generalize w39.drew = w40 at BK149 BK150 BK151 HB hHeld ⊢
    refine pI 0 (some 23) HT_.out ?_
    refine pI 1 (some 24) HT_.out ?_
    refine pI 3 (some 26) HT_.out ?_
    refine pI 6 (some 29) HT_.out ?_
    refine tI6 4 (some 27) HT_.out HW_.out hHeld ?_
    refine tI6 7 (some 30) HT_.out HW_.out hHeld ?_
    refine oI 2 (some 25) HT_.out (fun K hK => ?_)
    refine gO Tryd.func84 #[.int .i64 t152, .int .i64 t152] ?_
    with_reducible refine (spec_FpMul.calls t152 t152 t157 _ A25.out).mono ?_
    rintro e w' ⟨rfl, ⟨nd, rfl⟩⟩
    refine ⟨_, rfl, ?_⟩
    refine hK.out _ _ ⟨bc BK149 0, bc BK149 1, bc BK149 2, bc BK150 0, bc BK150 1, bc BK150 2⟩ (fun hHeld => ?_)
    clear hK K
    refine nO (some 25) ?_
    refine oI 5 (some 28) HT_.out (fun K hK => ?_)
    refine gO Tryd.func85 #[.int .i64 t157, .int .i64 a0_0] ?_
    with_reducible refine (spec_FpSub.calls t157 a0_0 t158 _ A26.out).mono ?_
    rintro e w' ⟨rfl, ⟨nd, rfl⟩⟩
    refine ⟨_, rfl, ?_⟩
    refine hK.out _ _ ⟨bc BK149 0, bc BK149 1, bc BK149 2, bc BK150 0, bc BK150 1, bc BK150 2⟩ (fun hHeld => ?_)
    clear hK K
    refine nO (some 28) ?_
    refine oI 8 (some 31) HT_.out (fun K hK => ?_)
    refine gO Tryd.func85 #[.int .i64 t158, .int .i64 a1_0] ?_
    with_reducible refine (spec_FpSub.calls t158 a1_0 t159 _ A27.out).mono ?_
    rintro e w' ⟨rfl, ⟨nd, rfl⟩⟩
    refine ⟨_, rfl, ?_⟩
    refine hK.out _ _ ⟨bc BK149 0, bc BK149 1, bc BK149 2, bc BK150 0, bc BK150 1, bc BK150 2⟩ (fun hHeld => ?_)
    clear hK K
    refine nO (some 31) ?_
    refine pI 9 (some 7) HT_.out ?_
    refine done_ (done_of HT_.out (by kernel_rfl)) ?_
    try go_wp2
    (try simp only [World.drewN_drewN]); (try (rw [drewN_self w40]; generalize hq_ : World.drewN w40 _ = w40; replace BK149 : Aside0 (w40.heap[gb149]? = some (.cells #[.int .i64 a0_0, .int .i64 a0_1, .bool false] 23 (0, 0))) := ⟨by rw [← hq_]; exact (bP BK149)⟩; replace BK150 : Aside0 (w40.heap[gb150]? = some (.cells #[.int .i64 a1_0, .int .i64 a1_1, .bool false] 23 (0, 0))) := ⟨by rw [← hq_]; exact (bP BK150)⟩; replace BK151 : Aside0 (w40.heap[gb151]? = some (.cells #[.int .i64 0, .int .i64 0, .bool false] 23 (0, 0))) := ⟨by rw [← hq_]; exact (bP BK151)⟩; replace HB : Aside0 (Below w.heap.size w w40) := ⟨by rw [← hq_]; exact (bZ HB)⟩; clear hq_))
    replace BK149 := Aside0.mk (blk_drew BK149.out)
    replace BK150 := Aside0.mk (blk_drew BK150.out)
    replace BK151 := Aside0.mk (blk_drew BK151.out)
    replace HB := Aside0.mk (below_drew1 HB.out)
    refine start_ (n := 12) (S := fun w' => w'.cell? ⟨gb149, 0, none⟩ = some (.int .i64 a0_0) ∧ w'.cell? ⟨gb149, 1, none⟩ = some (.int .i64 a0_1) ∧ w'.cell? ⟨gb149, 2, none⟩ = some (.bool false)) (ds := []) #[false, false, false, false, false, false, false, false, false, false, false, false] (by kernel_rfl) rfl rfl ⟨bc BK149 0, bc BK149 1, bc BK149 2⟩ (fun hHeld => ?_); refine with_tabW spec_l07Add.tab9 spec_l07Add.bits9 (fun HT_ HW_ => ?_)
    generalize w40.drew = w41 at BK149 BK150 BK151 HB hHeld ⊢
    refine pI 0 (some 32) HT_.out ?_
    refine pI 1 (some 33) HT_.out ?_
    refine pI 2 (some 34) HT_.out ?_
    refine pI 4 (some 36) HT_.out ?_
    refine pI 7 (some 39) HT_.out ?_
    refine tI3 3 (some 35) HT_.out HW_.out hHeld ?_
    refine tI3 8 (some 40) HT_.out HW_.out hHeld ?_
    refine oI 5 (some 37) HT_.out (fun K hK => ?_)
    refine gO Tryd.func85 #[.int .i64 a0_0, .int .i64 t159] ?_
    with_reducible refine (spec_FpSub.calls a0_0 t159 t160 _ A28.out).mono ?_
    rintro e w' ⟨rfl, ⟨nd, rfl⟩⟩
    refine ⟨_, rfl, ?_⟩
    refine hK.out _ _ ⟨bc BK149 0, bc BK149 1, bc BK149 2⟩ (fun hHeld => ?_)
    clear hK K
    refine nO (some 37) ?_
    refine oI 6 (some 38) HT_.out (fun K hK => ?_)
    refine gO Tryd.func84 #[.int .i64 t152, .int .i64 t160] ?_
    with_reducible refine (spec_FpMul.calls t152 t160 t161 _ A29.out).mono ?_
    rintro e w' ⟨rfl, ⟨nd, rfl⟩⟩
    refine ⟨_, rfl, ?_⟩
    refine hK.out _ _ ⟨bc BK149 0, bc BK149 1, bc BK149 2⟩ (fun hHeld => ?_)
    clear hK K
    refine nO (some 38) ?_
    refine oI 9 (some 41) HT_.out (fun K hK => ?_)
    refine gO Tryd.func85 #[.int .i64 t161, .int .i64 a0_1] ?_
    with_reducible refine (spec_FpSub.calls t161 a0_1 t162 _ A30.out).mono ?_
    rintro e w' ⟨rfl, ⟨nd, rfl⟩⟩
    refine ⟨_, rfl, ?_⟩
    refine hK.out _ _ ⟨bc BK149 0, bc BK149 1, bc BK149 2⟩ (fun hHeld => ?_)
    clear hK K
    refine nO (some 41) ?_
    refine pI 10 (some 42) HT_.out ?_
    refine oI 11 (none) HT_.out (fun K hK => ?_)
    have hs42 : w41.cell? ⟨gb151, 0, none⟩ = some (.int .i64 0) := bc BK151 0
    have hfs42 := blk_frozen BK151.out 0
    have hns42_0 := NB149_151.out
    have hns42_1 := NB150_151.out
    have hms42_0 := NB151_149.out
    have hms42_1 := NB151_150.out
    have hs43 : w41.cell? ⟨gb151, 1, none⟩ = some (.int .i64 0) := bc BK151 1
    have hfs43 := blk_frozen BK151.out 1
    have hns43_0 := NB149_151.out
    have hns43_1 := NB150_151.out
    have hms43_0 := NB151_149.out
    have hms43_1 := NB151_150.out
    have hs44 : w41.cell? ⟨gb151, 2, none⟩ = some (.bool false) := bc BK151 2
    have hfs44 := blk_frozen BK151.out 2
    have hns44_0 := NB149_151.out
    have hns44_1 := NB150_151.out
    have hms44_0 := NB151_149.out
    have hms44_1 := NB151_150.out
    refine skip_ (w1 := ?_) (by rfl) rfl ?_ ?_
    rotate_left
    ·go_simp
     rfl
    refine hK.out _ _ ⟨((cell_far (p := ⟨gb151, _, none⟩) NB149_151.out _).trans (((cell_far (p := ⟨gb151, _, none⟩) NB149_151.out _).trans (((cell_far (p := ⟨gb151, _, none⟩) NB149_151.out _).trans (hHeld.1)))))), ((cell_far (p := ⟨gb151, _, none⟩) NB149_151.out _).trans (((cell_far (p := ⟨gb151, _, none⟩) NB149_151.out _).trans (((cell_far (p := ⟨gb151, _, none⟩) NB149_151.out _).trans (hHeld.2.1)))))), ((cell_far (p := ⟨gb151, _, none⟩) NB149_151.out _).trans (((cell_far (p := ⟨gb151, _, none⟩) NB149_151.out _).trans (((cell_far (p := ⟨gb151, _, none⟩) NB149_151.out _).trans (hHeld.2.2))))))⟩ (fun hHeld => ?_)
    clear hK K
    refine done_ (done_of HT_.out (by kernel_rfl)) ?_
    try go_wp2
    refine rC gb151 23 #[.int .i64 t159, .int .i64 t162, .bool false] (bU BK151) Tryd.underlying23 ?_
    exact ⟨rR, bZ HB⟩
   ·replace c24 := Bool.eq_false_iff.mpr c24
    subst c24
    rw [if_neg (show ¬ (false = true) by decide)] at H
    replace H := Option.bind_eq_some_iff.mp H
    obtain ⟨⟨t154, t155, t156⟩, A450, H⟩ := H
    have A45 := Aside0.mk A450
    clear A450
    simp only [Option.some.injEq, Prod.mk.injEq] at H
    obtain ⟨rfl, rfl, rfl⟩ := H
    go_enter Tryd.func89, Tryd.ntmps89
    go_wp2_with (first | ((with_reducible refine gate_dst (N := 2) rfl ?_); refine bE 2 #[.int .i64 a0_0, .int .i64 a0_1, .bool false] 23 ?_; intro gb149 hg w46 hbox hb; have BK149 := Aside0.mk (hbox); have GW149 := bG HB hg; have GE149 := bG HB hg; replace HB := bS HB hb; clear hb hbox hg) | ((with_reducible refine gate_dst (N := 3) rfl ?_); refine bE 3 #[.int .i64 a1_0, .int .i64 a1_1, .bool false] 23 ?_; intro gb150 hg w47 hbox hb; have BK150 := Aside0.mk (hbox); have GW150 := bG HB hg; have GE150 := bG HB hg; replace HB := bS HB hb; have NB149_150 := bL BK149 hg; have NB150_149 := bR BK149 hg; replace BK149 := bB BK149 hb; clear hb hbox hg) | ((with_reducible refine gate_dst (N := 4) rfl ?_); refine bE 4 #[.int .i64 0, .int .i64 0, .bool false] 23 ?_; intro gb151 hg w48 hbox hb; have BK151 := Aside0.mk (hbox); have GW151 := bG HB hg; have GE151 := bG HB hg; replace HB := bS HB hb; have NB149_151 := bL BK149 hg; have NB151_149 := bR BK149 hg; replace BK149 := bB BK149 hb; have NB150_151 := bL BK150 hg; have NB151_150 := bR BK150 hg; replace BK150 := bB BK150 hb; clear hb hbox hg; have hnb49 := NB149_150.out; have hnc49 := NB150_149.out; have hnb50 := NB149_151.out; have hnc50 := NB151_149.out; obtain ⟨hcz51_0, hcz51_1, hcz51_2, hfz51_0, hfz51_1, hfz51_2⟩ := bK3 (w := w48) BK149; have hnb52 := NB150_151.out; have hnc52 := NB151_150.out; obtain ⟨hcz53_0, hcz53_1, hcz53_2, hfz53_0, hfz53_1, hfz53_2⟩ := bK3 (w := w48) BK150) | ((with_reducible refine gate_callee (f := 120) rfl ?_); refine gL (some 17) Tryd.func120 #[.agg #[.int .i64 a0_0, .int .i64 a0_1, .bool false], .agg #[.int .i64 a1_0, .int .i64 a1_1, .bool false]] ?_; (with_reducible refine (spec_l07Slope.calls k a0_0 a0_1 false a1_0 a1_1 false t152 false _ A23.out).mono ?_); rintro e w54 ⟨rfl, hb⟩; refine ⟨_, rfl, ?_⟩; replace BK149 := bB BK149 hb; replace BK150 := bB BK150 hb; replace BK151 := bB BK151 hb; replace HB := bS HB hb; (try clear hb)) | ((with_reducible refine gate_callee (f := 56) rfl ?_); refine gL (some 22) Tryd.func56 #[] ?_; (with_reducible refine (spec_l07Zero.calls  t154 t155 t156 _ A45.out).mono ?_); rintro e w55 ⟨rfl, hb⟩; refine ⟨_, rfl, ?_⟩; replace BK149 := bB BK149 hb; replace BK150 := bB BK150 hb; replace BK151 := bB BK151 hb; replace HB := bS HB hb; (try clear hb); obtain ⟨hcz56_0, hcz56_1, hcz56_2, hfz56_0, hfz56_1, hfz56_2⟩ := bK3 (w := w55) BK151))
    refine rC gb151 23 #[.int .i64 t154, .int .i64 t155, .bool t156] (bU BK151) Tryd.underlying23 ?_
    exact ⟨rR, bZ HB⟩
end Go.Proofs.YtkdmplfldfagnaaDoor.Pf
end
section
namespace Go.Proofs.YtkdmplfldfagnaaDoor.Pf
open Go.RowKit Go.Proofs.YtkdmplfldfagnaaDoorW.PrintWords Go.Proofs.YtkdmplfldfagnaaDoorW.PrintLast Go.Proofs.YtkdmplfldfagnaaDoorW.PrintMore
attribute [local go_sem] max2_int min2_int max_two min_two max_three min_three max_four min_four   -- for this text's walks alone
set_option linter.unusedVariables false
set_option linter.unusedSimpArgs false

/-! ### spec_PointTimes: function 45 -/
mutual
def spec_PointTimes.j0 : Nat → Int → Int → Int → Bool → Option (Int × Int × Bool)
 | 0, _, _, _, _ => none
 | k + 1, x5, x170000, x170001, x170002 => (spec_l07Zero.f).bind fun bt173 => (spec_PointTimes.l0 k x5 x170000 x170001 x170002 bt173.1 bt173.2.1 bt173.2.2)
def spec_PointTimes.l0 : Nat → Int → Int → Int → Bool → Int → Int → Bool → Option (Int × Int × Bool)
 | 0, _, _, _, _, _, _, _ => none
 | k + 1, x5, x170000, x170001, x170002, x177000, x177001, x177002 => if x5 > 0 then (if (Int.tmod x5 2) = 1 then ((spec_l07Add.f k x177000 x177001 x177002 x170000 x170001 x170002).bind fun bt177 => ((spec_l07Add.f k x170000 x170001 x170002 x170000 x170001 x170002).bind fun bt180 => (spec_PointTimes.l0 k (wrap64 (Int.tdiv x5 2)) bt180.1 bt180.2.1 bt180.2.2 bt177.1 bt177.2.1 bt177.2.2))) else ((spec_l07Add.f k x170000 x170001 x170002 x170000 x170001 x170002).bind fun bt183 => (spec_PointTimes.l0 k (wrap64 (Int.tdiv x5 2)) bt183.1 bt183.2.1 bt183.2.2 x177000 x177001 x177002))) else (some (x177000, x177001, x177002))
end
def spec_PointTimes.f (k : Nat) (a0 : Int) (a1_0 : Int) (a1_1 : Int) (a1_2 : Bool) : Option (Int × Int × Bool) := (spec_PointOk.f a1_0 a1_1 a1_2).bind fun t165 => (if t165 = true then (if (Int.tmod a0 12108) < 0 then ((spec_PointNeg.f a1_0 a1_1 a1_2).bind fun bt170 => (spec_PointTimes.j0 k (wrap64 (-(Int.tmod a0 12108))) bt170.1 bt170.2.1 bt170.2.2)) else (spec_PointTimes.j0 k (Int.tmod a0 12108) a1_0 a1_1 a1_2)) else ((spec_l07Zero.f).bind fun bt166 => (some (bt166.1, bt166.2.1, bt166.2.2))))
theorem spec_PointTimes.mono_l : ∀ k, (∀ y0 y1 y2 y3, LeO (spec_PointTimes.j0 k y0 y1 y2 y3) (spec_PointTimes.j0 (k + 1) y0 y1 y2 y3)) ∧ (∀ y0 y1 y2 y3 y4 y5 y6, LeO (spec_PointTimes.l0 k y0 y1 y2 y3 y4 y5 y6) (spec_PointTimes.l0 (k + 1) y0 y1 y2 y3 y4 y5 y6))
 | 0 => ⟨fun _ _ _ _ r h => by simp [spec_PointTimes.j0] at h, fun _ _ _ _ _ _ _ r h => by simp [spec_PointTimes.l0] at h⟩
 | k + 1 => by
  obtain ⟨ih0, ih1⟩ := spec_PointTimes.mono_l k
  refine ⟨?_, ?_⟩
  ·intro y0 y1 y2 y3
   unfold spec_PointTimes.j0
   repeat' first
   | (with_reducible exact ih0 _ _ _ _)
   | (with_reducible exact ih1 _ _ _ _ _ _ _)
   | (with_reducible exact spec_l07Add.mono _ _ _ _ _ _ _)
   | (with_reducible exact LeO.refl _)
   | (with_reducible exact LeO.none _)
   | (with_reducible refine LeO.ite ?_ ?_)
   | (with_reducible refine LeO.bind ?_ (fun _ => ?_))
   | exact ih0 _ _ _ _
   | exact ih1 _ _ _ _ _ _ _
   | exact spec_l07Add.mono _ _ _ _ _ _ _
   | exact LeO.none _
   | refine LeO.ite ?_ ?_
   | refine LeO.bind ?_ (fun _ => ?_)
  ·intro y0 y1 y2 y3 y4 y5 y6
   unfold spec_PointTimes.l0
   repeat' first
   | (with_reducible exact ih0 _ _ _ _)
   | (with_reducible exact ih1 _ _ _ _ _ _ _)
   | (with_reducible exact spec_l07Add.mono _ _ _ _ _ _ _)
   | (with_reducible exact LeO.refl _)
   | (with_reducible exact LeO.none _)
   | (with_reducible refine LeO.ite ?_ ?_)
   | (with_reducible refine LeO.bind ?_ (fun _ => ?_))
   | exact ih0 _ _ _ _
   | exact ih1 _ _ _ _ _ _ _
   | exact spec_l07Add.mono _ _ _ _ _ _ _
   | exact LeO.none _
   | refine LeO.ite ?_ ?_
   | refine LeO.bind ?_ (fun _ => ?_)
theorem spec_PointTimes.mono : ∀ a0 a1 a2 a3 k, LeO (spec_PointTimes.f k a0 a1 a2 a3) (spec_PointTimes.f (k + 1) a0 a1 a2 a3) := by
 intro a0 a1 a2 a3 k
 obtain ⟨ih0, ih1⟩ := spec_PointTimes.mono_l k
 unfold spec_PointTimes.f
 repeat' first
   | (with_reducible exact ih0 _ _ _ _)
   | (with_reducible exact ih1 _ _ _ _ _ _ _)
   | (with_reducible exact spec_l07Add.mono _ _ _ _ _ _ _)
   | (with_reducible exact LeO.refl _)
   | (with_reducible exact LeO.none _)
   | (with_reducible refine LeO.ite ?_ ?_)
   | (with_reducible refine LeO.bind ?_ (fun _ => ?_))
   | exact ih0 _ _ _ _
   | exact ih1 _ _ _ _ _ _ _
   | exact spec_l07Add.mono _ _ _ _ _ _ _
   | exact LeO.none _
   | refine LeO.ite ?_ ?_
   | refine LeO.bind ?_ (fun _ => ?_)
set_option maxHeartbeats 8000000 in
set_option maxRecDepth 100000 in
theorem spec_PointTimes.calls (k : Nat) (a0 : Int) (a1_0 : Int) (a1_1 : Int) (a1_2 : Bool) (r1 : Int) (r2 : Int) (r3 : Bool) (w : World) (h : spec_PointTimes.f k a0 a1_0 a1_1 a1_2 = some (r1, r2, r3)) :
  Calls Tryd.prog 45 #[.int .i64 a0, .agg #[.int .i64 a1_0, .int .i64 a1_1, .bool a1_2]] w fun e w' => e = .returned (.agg #[.int .i64 r1, .int .i64 r2, .bool r3]) ∧ Below w.heap.size w w' := by
 have hu23 := Tryd.underlying23
 have HB := Aside0.mk (Below.refl w.heap.size w)
 have H : ((spec_PointOk.f a1_0 a1_1 a1_2).bind fun t165 => (if t165 = true then (if (Int.tmod a0 12108) < 0 then ((spec_PointNeg.f a1_0 a1_1 a1_2).bind fun bt170 => (spec_PointTimes.j0 k (wrap64 (-(Int.tmod a0 12108))) bt170.1 bt170.2.1 bt170.2.2)) else (spec_PointTimes.j0 k (Int.tmod a0 12108) a1_0 a1_1 a1_2)) else ((spec_l07Zero.f).bind fun bt166 => (some (bt166.1, bt166.2.1, bt166.2.2))))) = some (r1, r2, r3) := h
 clear h
 replace H := Option.bind_eq_some_iff.mp H
 obtain ⟨t165, A30, H⟩ := H
 have A3 := Aside0.mk A30
 clear A30
 by_cases c4 : t165 = true
 ·subst c4
  rw [if_pos rfl] at H
  have HC5 := Aside0.mk H
  clear H
  go_enter Tryd.func45, Tryd.ntmps45
  go_upto_if 16 with (first | ((with_reducible refine gate_dst (N := 3) rfl ?_); refine bE 3 #[.int .i64 a1_0, .int .i64 a1_1, .bool a1_2] 23 ?_; intro gb163 hg w6 hbox hb; have BK163 := Aside0.mk (hbox); have GW163 := bG HB hg; have GE163 := bG HB hg; replace HB := bS HB hb; clear hb hbox hg) | ((with_reducible refine gate_dst (N := 4) rfl ?_); refine bE 4 #[.int .i64 0, .int .i64 0, .bool false] 23 ?_; intro gb164 hg w7 hbox hb; have BK164 := Aside0.mk (hbox); have GW164 := bG HB hg; have GE164 := bG HB hg; replace HB := bS HB hb; have NB163_164 := bL BK163 hg; have NB164_163 := bR BK163 hg; replace BK163 := bB BK163 hb; clear hb hbox hg; have hnb8 := NB163_164.out; have hnc8 := NB164_163.out; obtain ⟨hcz9_0, hcz9_1, hcz9_2, hfz9_0, hfz9_1, hfz9_2⟩ := bK3 (w := w7) BK163) | ((with_reducible refine gate_callee (f := 87) rfl ?_); refine gL (some 9) Tryd.func87 #[.agg #[.int .i64 a1_0, .int .i64 a1_1, .bool a1_2]] ?_; (with_reducible refine (spec_PointOk.calls a1_0 a1_1 a1_2 true _ A3.out).mono ?_); rintro e w10 ⟨rfl, hb⟩; refine ⟨_, rfl, ?_⟩; replace BK163 := bB BK163 hb; replace BK164 := bB BK164 hb; replace HB := bS HB hb; (try clear hb); obtain ⟨hcz11_0, hcz11_1, hcz11_2, hfz11_0, hfz11_1, hfz11_2⟩ := bK3 (w := w10) BK163) | ((with_reducible refine gate_dst (N := 6) rfl ?_); refine bE 6 #[.int .i64 0, .int .i64 0, .bool false] 23 ?_; intro gb169 hg w12 hbox hb; have BK169 := Aside0.mk (hbox); have GW169 := bG HB hg; have GE169 := bG HB hg; replace HB := bS HB hb; have NB163_169 := bL BK163 hg; have NB169_163 := bR BK163 hg; replace BK163 := bB BK163 hb; have NB164_169 := bL BK164 hg; have NB169_164 := bR BK164 hg; replace BK164 := bB BK164 hb; clear hb hbox hg; have hnb13 := NB169_163.out; have hnc13 := NB163_169.out; have hnb14 := NB169_164.out; have hnc14 := NB164_169.out; obtain ⟨hcz15_0, hcz15_1, hcz15_2, hfz15_0, hfz15_1, hfz15_2⟩ := bK3 (w := w12) BK169))
  (try simp only [Act.put, List.setIfInBounds_toArray, List.set_cons_zero, List.set_cons_succ])
  go_cut [5] (fun v5 wc => ∃ (kq : Nat) (x5_4 : Int) (x170000_4 : Int) (x170001_4 : Int) (x170002_4 : Bool), v5 = .int .i64 x5_4 ∧ Aside0 (spec_PointTimes.j0 kq x5_4 x170000_4 x170001_4 x170002_4 = some (r1, r2, r3)) ∧ Aside0 (kq ≤ k) ∧ Aside0 (wc.heap[gb163]? = some (.cells #[.int .i64 a1_0, .int .i64 a1_1, .bool a1_2] 23 (0, 0))) ∧ Aside0 (wc.heap[gb164]? = some (.cells #[.int .i64 0, .int .i64 0, .bool false] 23 (0, 0))) ∧ Aside0 (wc.heap[gb169]? = some (.cells #[.int .i64 x170000_4, .int .i64 x170001_4, .bool x170002_4] 23 (0, 0))) ∧ Aside0 (Below w.heap.size w wc))
  case first =>
   have H := HC5.out
   clear HC5
   by_cases c16 : (Int.tmod a0 12108) < 0
   ·rw [if_pos c16] at H
    have c16b0 : decide ((Int.tmod a0 12108) < 0) = true := decide_eq_true c16
    clear c16
    (first | rw [c16b0] | (simp only [i64_w, i32_w]; rw [c16b0]) | rw [c16b1] | skip)
    replace H := Option.bind_eq_some_iff.mp H
    obtain ⟨⟨t170, t171, t172⟩, A170, H⟩ := H
    have A17 := Aside0.mk A170
    clear A170
    have H' := Aside0.mk H
    clear H
    have hnb18 := NB163_164.out
    have hnc18 := NB164_163.out
    have hnb19 := NB163_169.out
    have hnc19 := NB169_163.out
    obtain ⟨hcz20_0, hcz20_1, hcz20_2, hfz20_0, hfz20_1, hfz20_2⟩ := bK3 (w := w12) BK163
    go_wp2_with (first | ((with_reducible refine gate_callee (f := 88) rfl ?_); refine gL (some 20) Tryd.func88 #[.agg #[.int .i64 a1_0, .int .i64 a1_1, .bool a1_2]] ?_; (with_reducible refine (spec_PointNeg.calls a1_0 a1_1 a1_2 t170 t171 t172 _ A17.out).mono ?_); rintro e w21 ⟨rfl, hb⟩; refine ⟨_, rfl, ?_⟩; replace BK163 := bB BK163 hb; replace BK164 := bB BK164 hb; replace BK169 := bV 23 #[.int .i64 a1_0, .int .i64 a1_1, .bool a1_2] BK169 hb; replace HB := bS HB hb; (try clear hb); have hnb22 := NB169_164.out; have hnc22 := NB164_169.out; obtain ⟨hcz23_0, hcz23_1, hcz23_2, hfz23_0, hfz23_1, hfz23_2⟩ := bK3 (w := w21) BK169))
    go_meet
    case rel => exact ⟨_, (wrap64 (-(Int.tmod a0 12108))), (t170), (t171), (t172), rS, H', ⟨by first | omega | exact Nat.le_refl _⟩, ⟨bP BK163⟩, ⟨bP BK164⟩, ⟨bU BK169⟩, ⟨bZ HB⟩⟩
   ·rw [if_neg c16] at H
    have c16b0 : decide ((Int.tmod a0 12108) < 0) = false := decide_eq_false c16
    clear c16
    (first | rw [c16b0] | (simp only [i64_w, i32_w]; rw [c16b0]) | rw [c16b1] | skip)
    have H' := Aside0.mk H
    clear H
    go_wp2
    go_meet
    case rel => exact ⟨_, (Int.tmod a0 12108), (a1_0), (a1_1), (a1_2), rS, H', ⟨by first | omega | exact Nat.le_refl _⟩, ⟨bP BK163⟩, ⟨bP BK164⟩, ⟨bU BK169⟩, ⟨bZ HB⟩⟩
  case rest =>
   clear HC5
   try clear c1
   try clear c2
   try clear p2
   try clear c4
   try clear p6
   try clear c8
   try clear c13
   try clear c14
   try clear c16
   try clear c16b0
   try clear c18
   try clear c19
   try clear c22
   try clear hcz11_0
   try clear hcz11_1
   try clear hcz11_2
   try clear hcz15_0
   try clear hcz15_1
   try clear hcz15_2
   try clear hcz20_0
   try clear hcz20_1
   try clear hcz20_2
   try clear hcz23_0
   try clear hcz23_1
   try clear hcz23_2
   try clear hcz9_0
   try clear hcz9_1
   try clear hcz9_2
   try clear hfz11_0
   try clear hfz11_1
   try clear hfz11_2
   try clear hfz15_0
   try clear hfz15_1
   try clear hfz15_2
   try clear hfz20_0
   try clear hfz20_1
   try clear hfz20_2
   try clear hfz23_0
   try clear hfz23_1
   try clear hfz23_2
   try clear hfz9_0
   try clear hfz9_1
   try clear hfz9_2
   obtain ⟨kq, x5_4, x170000_4, x170001_4, x170002_4, rfl, HA, HJ4, BK163, BK164, BK169, HB⟩ := hcut
   cases kq with
   | zero => exact absurd HA.out (by simp [spec_PointTimes.j0])
   | succ kj4 =>
    have H := HA.out
    clear HA
    simp only [spec_PointTimes.j0] at H
    replace H := Option.bind_eq_some_iff.mp H
    obtain ⟨⟨t173, t174, t175⟩, A240, H⟩ := H
    have A24 := Aside0.mk A240
    clear A240
    have H' := Aside0.mk H
    clear H
    go_wp2_with (first | ((with_reducible refine gate_callee (f := 56) rfl ?_); refine gL (some 21) Tryd.func56 #[] ?_; (with_reducible refine (spec_l07Zero.calls  t173 t174 t175 _ A24.out).mono ?_); rintro e w25 ⟨rfl, hb⟩; refine ⟨_, rfl, ?_⟩; replace BK163 := bB BK163 hb; replace BK164 := bB BK164 hb; replace BK169 := bB BK169 hb; replace HB := bS HB hb; (try clear hb)) | ((with_reducible refine gate_dst (N := 7) rfl ?_); refine bE 7 #[.int .i64 0, .int .i64 0, .bool false] 23 ?_; intro gb176 hg w26 hbox hb; have BK176 := Aside0.mk (hbox); have GW176 := bG HB hg; have GE176 := bG HB hg; replace HB := bS HB hb; have NB163_176 := bL BK163 hg; have NB176_163 := bR BK163 hg; replace BK163 := bB BK163 hb; have NB164_176 := bL BK164 hg; have NB176_164 := bR BK164 hg; replace BK164 := bB BK164 hb; have NB169_176 := bL BK169 hg; have NB176_169 := bR BK169 hg; replace BK169 := bB BK169 hb; clear hb hbox hg; have hnb27 := NB176_163.out; have hnc27 := NB163_176.out; have hnb28 := NB176_164.out; have hnc28 := NB164_176.out; have hnb29 := NB176_169.out; have hnc29 := NB169_176.out; obtain ⟨hcz30_0, hcz30_1, hcz30_2, hfz30_0, hfz30_1, hfz30_2⟩ := bK3 (w := w26) BK176))
    go_loopg [5] kj4 (fun kq v5 w' => ∃ (x5_2 : Int) (x170000_2 : Int) (x170001_2 : Int) (x170002_2 : Bool) (x177000_2 : Int) (x177001_2 : Int) (x177002_2 : Bool), v5 = .int .i64 x5_2 ∧ Aside0 (spec_PointTimes.l0 kq x5_2 x170000_2 x170001_2 x170002_2 x177000_2 x177001_2 x177002_2 = some (r1, r2, r3)) ∧ Aside0 (kq ≤ kj4) ∧ Aside0 (w'.heap[gb163]? = some (.cells #[.int .i64 a1_0, .int .i64 a1_1, .bool a1_2] 23 (0, 0))) ∧ Aside0 (w'.heap[gb164]? = some (.cells #[.int .i64 0, .int .i64 0, .bool false] 23 (0, 0))) ∧ Aside0 (w'.heap[gb169]? = some (.cells #[.int .i64 x170000_2, .int .i64 x170001_2, .bool x170002_2] 23 (0, 0))) ∧ Aside0 (w'.heap[gb176]? = some (.cells #[.int .i64 x177000_2, .int .i64 x177001_2, .bool x177002_2] 23 (0, 0))) ∧ Aside0 (Below w.heap.size w w'))
    case atStart => exact ⟨(x5_4), (x170000_4), (x170001_4), (x170002_4), (t173), (t174), (t175), rS, H', ⟨Nat.le_refl _⟩, ⟨bP BK163⟩, ⟨bP BK164⟩, ⟨bP BK169⟩, ⟨bU BK176⟩, ⟨bZ HB⟩⟩
    case round =>
     clear H'
     try clear c1
     try clear c2
     try clear p2
     try clear c4
     try clear c5
     try clear p6
     try clear c8
     try clear c13
     try clear c14
     try clear c16
     try clear c16b0
     try clear c18
     try clear c19
     try clear c22
     try clear c27
     try clear c28
     try clear c29
     try clear hcz11_0
     try clear hcz11_1
     try clear hcz11_2
     try clear hcz15_0
     try clear hcz15_1
     try clear hcz15_2
     try clear hcz20_0
     try clear hcz20_1
     try clear hcz20_2
     try clear hcz23_0
     try clear hcz23_1
     try clear hcz23_2
     try clear hcz30_0
     try clear hcz30_1
     try clear hcz30_2
     try clear hcz9_0
     try clear hcz9_1
     try clear hcz9_2
     try clear hfz11_0
     try clear hfz11_1
     try clear hfz11_2
     try clear hfz15_0
     try clear hfz15_1
     try clear hfz15_2
     try clear hfz20_0
     try clear hfz20_1
     try clear hfz20_2
     try clear hfz23_0
     try clear hfz23_1
     try clear hfz23_2
     try clear hfz30_0
     try clear hfz30_1
     try clear hfz30_2
     try clear hfz9_0
     try clear hfz9_1
     try clear hfz9_2
     try clear p2
     try clear p6
     obtain ⟨x5_2, x170000_2, x170001_2, x170002_2, x177000_2, x177001_2, x177002_2, rfl, HA, HK2, BK163, BK164, BK169, BK176, HB⟩ := hrel
     cases gk with
     | zero => exact absurd HA.out (by simp [spec_PointTimes.l0])
     | succ k2 =>
      have H := HA.out
      clear HA
      simp only [spec_PointTimes.l0] at H
      by_cases c31 : x5_2 > 0
      ·rw [if_pos c31] at H
       have c31b0 : decide (0 < x5_2) = true := decide_eq_true c31
       clear c31
       by_cases c32 : (Int.tmod x5_2 2) = 1
       ·rw [if_pos c32] at H
        have c32b0 : ((Int.tmod x5_2 2) == 1) = true := beq_iff_eq.mpr c32
        have c32b1 : ((Int.tmod x5_2 2) != 1) = false := bne_eq_false_iff_eq.mpr c32
        clear c32
        replace H := Option.bind_eq_some_iff.mp H
        obtain ⟨⟨t177, t178, t179⟩, A330, H⟩ := H
        have A33 := Aside0.mk A330
        clear A330
        replace H := Option.bind_eq_some_iff.mp H
        obtain ⟨⟨t180, t181, t182⟩, A340, H⟩ := H
        have A34 := Aside0.mk A340
        clear A340
        have H' := Aside0.mk H
        clear H
        have hnb35 := NB176_163.out
        have hnc35 := NB163_176.out
        have hnb36 := NB176_164.out
        have hnc36 := NB164_176.out
        have hnb37 := NB176_169.out
        have hnc37 := NB169_176.out
        obtain ⟨hcz38_0, hcz38_1, hcz38_2, hfz38_0, hfz38_1, hfz38_2⟩ := bK3 (w := wr) BK176
        have hnb39 := NB169_163.out
        have hnc39 := NB163_169.out
        have hnb40 := NB169_164.out
        have hnc40 := NB164_169.out
        obtain ⟨hcz41_0, hcz41_1, hcz41_2, hfz41_0, hfz41_1, hfz41_2⟩ := bK3 (w := wr) BK169
        go_wp2_with (first | ((with_reducible refine gate_callee (f := 89) rfl ?_); refine gL (some 29) Tryd.func89 #[.agg #[.int .i64 x177000_2, .int .i64 x177001_2, .bool x177002_2], .agg #[.int .i64 x170000_2, .int .i64 x170001_2, .bool x170002_2]] ?_; (with_reducible refine (spec_l07Add.calls k2 x177000_2 x177001_2 x177002_2 x170000_2 x170001_2 x170002_2 t177 t178 t179 _ A33.out).mono ?_); rintro e w42 ⟨rfl, hb⟩; refine ⟨_, rfl, ?_⟩; replace BK163 := bB BK163 hb; replace BK164 := bB BK164 hb; replace BK169 := bB BK169 hb; replace BK176 := bB BK176 hb; replace HB := bS HB hb; (try clear hb); obtain ⟨hcz43_0, hcz43_1, hcz43_2, hfz43_0, hfz43_1, hfz43_2⟩ := bK3 (w := w42) BK176; obtain ⟨hcz44_0, hcz44_1, hcz44_2, hfz44_0, hfz44_1, hfz44_2⟩ := bK3 (w := w42) BK169) | ((with_reducible refine gate_callee (f := 89) rfl ?_); refine gL (some 32) Tryd.func89 #[.agg #[.int .i64 x170000_2, .int .i64 x170001_2, .bool x170002_2], .agg #[.int .i64 x170000_2, .int .i64 x170001_2, .bool x170002_2]] ?_; (with_reducible refine (spec_l07Add.calls k2 x170000_2 x170001_2 x170002_2 x170000_2 x170001_2 x170002_2 t180 t181 t182 _ A34.out).mono ?_); rintro e w45 ⟨rfl, hb⟩; refine ⟨_, rfl, ?_⟩; replace BK163 := bB BK163 hb; replace BK164 := bB BK164 hb; replace BK169 := bB BK169 hb; replace BK176 := bV 23 #[.int .i64 t177, .int .i64 t178, .bool t179] BK176 hb; replace HB := bS HB hb; (try clear hb); obtain ⟨hcz46_0, hcz46_1, hcz46_2, hfz46_0, hfz46_1, hfz46_2⟩ := bK3 (w := w45) BK169))
        go_roundg k2
        case measure => have := HJ4.out; have := HK2.out; omega
        case rel => exact ⟨(wrap64 (Int.tdiv x5_2 2)), (t180), (t181), (t182), (t177), (t178), (t179), rS, H', ⟨by have := HJ4.out; have := HK2.out; omega⟩, ⟨bP BK163⟩, ⟨bP BK164⟩, ⟨bU BK169⟩, ⟨bP BK176⟩, ⟨bZ HB⟩⟩
       ·rw [if_neg c32] at H
        have c32b0 : ((Int.tmod x5_2 2) == 1) = false := beq_eq_false_iff_ne.mpr c32
        have c32b1 : ((Int.tmod x5_2 2) != 1) = true := bne_iff_ne.mpr c32
        replace H := Option.bind_eq_some_iff.mp H
        obtain ⟨⟨t183, t184, t185⟩, A470, H⟩ := H
        have A47 := Aside0.mk A470
        clear A470
        have H' := Aside0.mk H
        clear H
        have hnb48 := NB169_163.out
        have hnc48 := NB163_169.out
        have hnb49 := NB169_164.out
        have hnc49 := NB164_169.out
        have hnb50 := NB169_176.out
        have hnc50 := NB176_169.out
        obtain ⟨hcz51_0, hcz51_1, hcz51_2, hfz51_0, hfz51_1, hfz51_2⟩ := bK3 (w := wr) BK169
        go_wp2_with (first | ((with_reducible refine gate_callee (f := 89) rfl ?_); refine gL (some 32) Tryd.func89 #[.agg #[.int .i64 x170000_2, .int .i64 x170001_2, .bool x170002_2], .agg #[.int .i64 x170000_2, .int .i64 x170001_2, .bool x170002_2]] ?_; (with_reducible refine (spec_l07Add.calls k2 x170000_2 x170001_2 x170002_2 x170000_2 x170001_2 x170002_2 t183 t184 t185 _ A47.out).mono ?_); rintro e w52 ⟨rfl, hb⟩; refine ⟨_, rfl, ?_⟩; replace BK163 := bB BK163 hb; replace BK164 := bB BK164 hb; replace BK169 := bB BK169 hb; replace BK176 := bB BK176 hb; replace HB := bS HB hb; (try clear hb); obtain ⟨hcz53_0, hcz53_1, hcz53_2, hfz53_0, hfz53_1, hfz53_2⟩ := bK3 (w := w52) BK169))
        go_roundg k2
        case measure => have := HJ4.out; have := HK2.out; omega
        case rel => exact ⟨(wrap64 (Int.tdiv x5_2 2)), (t183), (t184), (t185), (x177000_2), (x177001_2), (x177002_2), rS, H', ⟨by have := HJ4.out; have := HK2.out; omega⟩, ⟨bP BK163⟩, ⟨bP BK164⟩, ⟨bU BK169⟩, ⟨bP BK176⟩, ⟨bZ HB⟩⟩
      ·rw [if_neg c31] at H
       have c31b0 : decide (0 < x5_2) = false := decide_eq_false c31
       clear c31
       simp only [Option.some.injEq, Prod.mk.injEq] at H
       obtain ⟨rfl, rfl, rfl⟩ := H
       have hnb54 := NB176_163.out
       have hnc54 := NB163_176.out
       have hnb55 := NB176_164.out
       have hnc55 := NB164_176.out
       have hnb56 := NB176_169.out
       have hnc56 := NB169_176.out
       obtain ⟨hcz57_0, hcz57_1, hcz57_2, hfz57_0, hfz57_1, hfz57_2⟩ := bK3 (w := wr) BK176
       have hnb58 := NB164_163.out
       have hnc58 := NB163_164.out
       have hnb59 := NB164_169.out
       have hnc59 := NB169_164.out
       obtain ⟨hcz60_0, hcz60_1, hcz60_2, hfz60_0, hfz60_1, hfz60_2⟩ := bK3 (w := wr) BK164
       go_wp2
       refine rC gb164 23 #[.int .i64 x177000_2, .int .i64 x177001_2, .bool x177002_2] (bU BK164) Tryd.underlying23 ?_
       exact ⟨rR, bZ HB⟩
 ·replace c4 := Bool.eq_false_iff.mpr c4
  subst c4
  rw [if_neg (show ¬ (false = true) by decide)] at H
  replace H := Option.bind_eq_some_iff.mp H
  obtain ⟨⟨t166, t167, t168⟩, A610, H⟩ := H
  have A61 := Aside0.mk A610
  clear A610
  simp only [Option.some.injEq, Prod.mk.injEq] at H
  obtain ⟨rfl, rfl, rfl⟩ := H
  go_enter Tryd.func45, Tryd.ntmps45
  go_wp2_with (first | ((with_reducible refine gate_dst (N := 3) rfl ?_); refine bE 3 #[.int .i64 a1_0, .int .i64 a1_1, .bool a1_2] 23 ?_; intro gb163 hg w62 hbox hb; have BK163 := Aside0.mk (hbox); have GW163 := bG HB hg; have GE163 := bG HB hg; replace HB := bS HB hb; clear hb hbox hg) | ((with_reducible refine gate_dst (N := 4) rfl ?_); refine bE 4 #[.int .i64 0, .int .i64 0, .bool false] 23 ?_; intro gb164 hg w63 hbox hb; have BK164 := Aside0.mk (hbox); have GW164 := bG HB hg; have GE164 := bG HB hg; replace HB := bS HB hb; have NB163_164 := bL BK163 hg; have NB164_163 := bR BK163 hg; replace BK163 := bB BK163 hb; clear hb hbox hg; have hnb64 := NB163_164.out; have hnc64 := NB164_163.out; obtain ⟨hcz65_0, hcz65_1, hcz65_2, hfz65_0, hfz65_1, hfz65_2⟩ := bK3 (w := w63) BK163) | ((with_reducible refine gate_callee (f := 87) rfl ?_); refine gL (some 9) Tryd.func87 #[.agg #[.int .i64 a1_0, .int .i64 a1_1, .bool a1_2]] ?_; (with_reducible refine (spec_PointOk.calls a1_0 a1_1 a1_2 false _ A3.out).mono ?_); rintro e w66 ⟨rfl, hb⟩; refine ⟨_, rfl, ?_⟩; replace BK163 := bB BK163 hb; replace BK164 := bB BK164 hb; replace HB := bS HB hb; (try clear hb)) | ((with_reducible refine gate_callee (f := 56) rfl ?_); refine gL (some 11) Tryd.func56 #[] ?_; (with_reducible refine (spec_l07Zero.calls  t166 t167 t168 _ A61.out).mono ?_); rintro e w67 ⟨rfl, hb⟩; refine ⟨_, rfl, ?_⟩; replace BK163 := bB BK163 hb; replace BK164 := bB BK164 hb; replace HB := bS HB hb; (try clear hb); obtain ⟨hcz68_0, hcz68_1, hcz68_2, hfz68_0, hfz68_1, hfz68_2⟩ := bK3 (w := w67) BK164))
  refine rC gb164 23 #[.int .i64 t166, .int .i64 t167, .bool t168] (bU BK164) Tryd.underlying23 ?_
  exact ⟨rR, bZ HB⟩

end Go.Proofs.YtkdmplfldfagnaaDoor.Pf
end
section
namespace Go.Proofs.YtkdmplfldfagnaaDoor.Pf
open Go.RowKit Go.Proofs.YtkdmplfldfagnaaDoorW.PrintWords Go.Proofs.YtkdmplfldfagnaaDoorW.PrintLast Go.Proofs.YtkdmplfldfagnaaDoorW.PrintMore
attribute [local go_sem] max2_int min2_int max_two min_two max_three min_three max_four min_four   -- for this text's walks alone
set_option linter.unusedVariables false
set_option linter.unusedSimpArgs false
/-! ### spec_InGroup: function 65 -/
def spec_InGroup.f (k : Nat) (a0_0 : Int) (a0_1 : Int) (a0_2 : Bool) : Option (Bool) := (spec_PointOk.f a0_0 a0_1 a0_2).bind fun t377 => (if t377 = true then ((spec_PointTimes.f k 1009 a0_0 a0_1 a0_2).bind fun bt378 => (some bt378.2.2)) else (some false))
theorem spec_InGroup.mono : ∀ a0 a1 a2 k, LeO (spec_InGroup.f k a0 a1 a2) (spec_InGroup.f (k + 1) a0 a1 a2) := by
 intro a0 a1 a2 k
 unfold spec_InGroup.f
 repeat' first
   | (with_reducible exact spec_PointTimes.mono _ _ _ _ _)
   | (with_reducible exact LeO.refl _)
   | (with_reducible exact LeO.none _)
   | (with_reducible refine LeO.ite ?_ ?_)
   | (with_reducible refine LeO.bind ?_ (fun _ => ?_))
   | exact spec_PointTimes.mono _ _ _ _ _
   | exact LeO.none _
   | refine LeO.ite ?_ ?_
   | refine LeO.bind ?_ (fun _ => ?_)
set_option maxHeartbeats 8000000 in
set_option maxRecDepth 100000 in
theorem spec_InGroup.calls (k : Nat) (a0_0 : Int) (a0_1 : Int) (a0_2 : Bool) (r : Bool) (w : World) (h : spec_InGroup.f k a0_0 a0_1 a0_2 = some r) :
  Calls Tryd.prog 65 #[.agg #[.int .i64 a0_0, .int .i64 a0_1, .bool a0_2]] w fun e w' => e = .returned (.bool r) ∧ Below w.heap.size w w' := by
 have hu23 := Tryd.underlying23
 have hfd23_0 : ∀ (x0 : Int) (x1 : Int) (x2 : Bool) (w_ : World), (Instr.field 23 (.agg #[.int .i64 x0, .int .i64 x1, .bool x2]) 0).run Tryd.prog w_ = .ok (.int .i64 x0) w_ := fun _ _ _ _ => by kernel_rfl
 have hfd23_1 : ∀ (x0 : Int) (x1 : Int) (x2 : Bool) (w_ : World), (Instr.field 23 (.agg #[.int .i64 x0, .int .i64 x1, .bool x2]) 1).run Tryd.prog w_ = .ok (.int .i64 x1) w_ := fun _ _ _ _ => by kernel_rfl
 have hfd23_2 : ∀ (x0 : Int) (x1 : Int) (x2 : Bool) (w_ : World), (Instr.field 23 (.agg #[.int .i64 x0, .int .i64 x1, .bool x2]) 2).run Tryd.prog w_ = .ok (.bool x2) w_ := fun _ _ _ _ => by kernel_rfl
 have HB := Aside0.mk (Below.refl w.heap.size w)
 have H : ((spec_PointOk.f a0_0 a0_1 a0_2).bind fun t377 => (if t377 = true then ((spec_PointTimes.f k 1009 a0_0 a0_1 a0_2).bind fun bt378 => (some bt378.2.2)) else (some false))) = some r := h
 clear h
 replace H := Option.bind_eq_some_iff.mp H
 obtain ⟨t377, A20, H⟩ := H
 have A2 := Aside0.mk A20
 clear A20
 by_cases c3 : t377 = true
 ·subst c3
  rw [if_pos rfl] at H
  replace H := Option.bind_eq_some_iff.mp H
  obtain ⟨⟨t378, t379, t380⟩, A40, H⟩ := H
  have A4 := Aside0.mk A40
  clear A40
  obtain rfl := Option.some.inj H
  go_enter Tryd.func65, Tryd.ntmps65
  go_wp2_with (first | ((with_reducible refine gate_dst (N := 1) rfl ?_); refine bE 1 #[.int .i64 a0_0, .int .i64 a0_1, .bool a0_2] 23 ?_; intro gb376 hg w5 hbox hb; have BK376 := Aside0.mk (hbox); have GW376 := bG HB hg; have GE376 := bG HB hg; replace HB := bS HB hb; clear hb hbox hg; obtain ⟨hcz6_0, hcz6_1, hcz6_2, hfz6_0, hfz6_1, hfz6_2⟩ := bK3 (w := w5) BK376) | ((with_reducible refine gate_callee (f := 87) rfl ?_); refine gL (some 4) Tryd.func87 #[.agg #[.int .i64 a0_0, .int .i64 a0_1, .bool a0_2]] ?_; (with_reducible refine (spec_PointOk.calls a0_0 a0_1 a0_2 true _ A2.out).mono ?_); rintro e w7 ⟨rfl, hb⟩; refine ⟨_, rfl, ?_⟩; replace BK376 := bB BK376 hb; replace HB := bS HB hb; (try clear hb); obtain ⟨hcz8_0, hcz8_1, hcz8_2, hfz8_0, hfz8_1, hfz8_2⟩ := bK3 (w := w7) BK376) | (go_at_call 45; (with_reducible refine (spec_PointTimes.calls k 1009 a0_0 a0_1 a0_2 t378 t379 t380 _ A4.out).mono ?_); rintro e w9 ⟨rfl, hb⟩; replace BK376 := bB BK376 hb; replace HB := bS HB hb; (try clear hb)))
  go_ret
  exact ⟨rR, bZ HB⟩
 ·replace c3 := Bool.eq_false_iff.mpr c3
  subst c3
  rw [if_neg (show ¬ (false = true) by decide)] at H
  obtain rfl := Option.some.inj H
  go_enter Tryd.func65, Tryd.ntmps65
  go_wp2_with (first | ((with_reducible refine gate_dst (N := 1) rfl ?_); refine bE 1 #[.int .i64 a0_0, .int .i64 a0_1, .bool a0_2] 23 ?_; intro gb376 hg w10 hbox hb; have BK376 := Aside0.mk (hbox); have GW376 := bG HB hg; have GE376 := bG HB hg; replace HB := bS HB hb; clear hb hbox hg; obtain ⟨hcz11_0, hcz11_1, hcz11_2, hfz11_0, hfz11_1, hfz11_2⟩ := bK3 (w := w10) BK376) | ((with_reducible refine gate_callee (f := 87) rfl ?_); refine gL (some 4) Tryd.func87 #[.agg #[.int .i64 a0_0, .int .i64 a0_1, .bool a0_2]] ?_; (with_reducible refine (spec_PointOk.calls a0_0 a0_1 a0_2 false _ A2.out).mono ?_); rintro e w12 ⟨rfl, hb⟩; refine ⟨_, rfl, ?_⟩; replace BK376 := bB BK376 hb; replace HB := bS HB hb; (try clear hb)))
  go_ret
  exact ⟨rR, bZ HB⟩
/-! ### spec_CommitteeOk: function 60 -/
def spec_CommitteeOk.l0 : Nat → Int → List (S23) → Option (Bool)
 | 0, _, _ => none
 | k + 1, x3, x382000 => if x3 < (x382000.length : Int) then (if 0 ≤ x3 then ((spec_InGroup.f k ((rd_T23 x382000 x3).f0) ((rd_T23 x382000 x3).f1) ((rd_T23 x382000 x3).f2)).bind fun t383 => (if t383 = true then (if (rd_T23 x382000 x3).f2 = true then (some false) else (spec_CommitteeOk.l0 k (wrap64 (x3 + 1)) x382000)) else (some false))) else (none)) else (some ((x382000.length : Int) == 8))
def spec_CommitteeOk.f (k : Nat) (l0_0 : List (S23)) : Option (Bool) := spec_CommitteeOk.l0 k 0 l0_0
theorem spec_CommitteeOk.mono_l : ∀ k, (∀ y0 y1, LeO (spec_CommitteeOk.l0 k y0 y1) (spec_CommitteeOk.l0 (k + 1) y0 y1))
 | 0 => fun _ _ r h => by simp [spec_CommitteeOk.l0] at h
 | k + 1 => by
  have ih0 := spec_CommitteeOk.mono_l k
  ·intro y0 y1
   unfold spec_CommitteeOk.l0
   repeat' first
   | (with_reducible exact ih0 _ _)
   | (with_reducible exact spec_InGroup.mono _ _ _ _)
   | (with_reducible exact LeO.refl _)
   | (with_reducible exact LeO.none _)
   | (with_reducible refine LeO.ite ?_ ?_)
   | (with_reducible refine LeO.bind ?_ (fun _ => ?_))
   | exact ih0 _ _
   | exact spec_InGroup.mono _ _ _ _
   | exact LeO.none _
   | refine LeO.ite ?_ ?_
   | refine LeO.bind ?_ (fun _ => ?_)
theorem spec_CommitteeOk.mono : ∀ a0 k, LeO (spec_CommitteeOk.f k a0) (spec_CommitteeOk.f (k + 1) a0) := by
 intro a0 k
 have ih0 := spec_CommitteeOk.mono_l k
 unfold spec_CommitteeOk.f
 repeat' first
   | (with_reducible exact ih0 _ _)
   | (with_reducible exact spec_InGroup.mono _ _ _ _)
   | (with_reducible exact LeO.refl _)
   | (with_reducible exact LeO.none _)
   | (with_reducible refine LeO.ite ?_ ?_)
   | (with_reducible refine LeO.bind ?_ (fun _ => ?_))
   | exact ih0 _ _
   | exact spec_InGroup.mono _ _ _ _
   | exact LeO.none _
   | refine LeO.ite ?_ ?_
   | refine LeO.bind ?_ (fun _ => ?_)
set_option maxHeartbeats 8000000 in
set_option maxRecDepth 100000 in
theorem spec_CommitteeOk.calls (k : Nat) (A0_0 : Option Addr) (c0_0 : Nat) (l0_0 : List (S23)) (r : Bool) (w : World) (hr0_0 : Kd.C k23 w A0_0 l0_0.length l0_0) (hc0_0 : l0_0.length ≤ c0_0) (h : spec_CommitteeOk.f k l0_0 = some r) :
  Calls Tryd.prog 60 #[.agg #[.slice A0_0 l0_0.length c0_0]] w fun e w' => e = .returned (.bool r) ∧ Below w.heap.size w w' := by
 have hu38 := Tryd.underlying38
 have hu23 := Tryd.underlying23
 have HR0_0 := Aside0.mk hr0_0
 have HC0_0 := Aside0.mk hc0_0
 clear hr0_0 hc0_0
 have HB := Aside0.mk (Below.refl w.heap.size w)
 have H : (spec_CommitteeOk.l0 k 0 l0_0) = some r := h
 clear h
 have H' := Aside0.mk H
 clear H
 go_enter Tryd.func60, Tryd.ntmps60
 go_wp2_with (first | ((with_reducible refine gate_dst (N := 1) rfl ?_); refine bE 1 #[.slice A0_0 l0_0.length c0_0] 38 ?_; intro gb381 hg w2 hbox hb; have BK381 := Aside0.mk (hbox); have GW381 := bG HB hg; have GE381 := bG HB hg; replace HB := bS HB hb; clear hb hbox hg))
 go_loopg [3] k (fun kq v3 w' => ∃ (x3_1 : Int), v3 = .int .i64 x3_1 ∧ Aside0 (spec_CommitteeOk.l0 kq x3_1 l0_0 = some r) ∧ Aside0 (kq ≤ k) ∧ Aside0 (w'.heap[gb381]? = some (.cells #[(.slice A0_0 l0_0.length c0_0)] 38 (0, 0))) ∧ Aside0 (Below w.heap.size w w'))
 case atStart => exact ⟨(0), rS, H', ⟨Nat.le_refl _⟩, ⟨bP BK381⟩, ⟨bZ HB⟩⟩
 case round =>
  clear H'
  try clear p2
  obtain ⟨x3_1, rfl, HA, HK1, BK381, HB⟩ := hrel
  cases gk with
  | zero => exact absurd HA.out (by simp [spec_CommitteeOk.l0])
  | succ k1 =>
   have H := HA.out
   clear HA
   simp only [spec_CommitteeOk.l0] at H
   by_cases c3 : x3_1 < (l0_0.length : Int)
   ·rw [if_pos c3] at H
    have c3b0 : decide (x3_1 < (l0_0.length : Int)) = true := decide_eq_true c3
    clear c3
    by_cases c4 : 0 ≤ x3_1
    ·rw [if_pos c4] at H
     have c4b0 : decide (0 ≤ x3_1) = true := decide_eq_true c4
     clear c4
     replace H := Option.bind_eq_some_iff.mp H
     obtain ⟨t383, A50, H⟩ := H
     have A5 := Aside0.mk A50
     clear A50
     by_cases c6 : t383 = true
     ·subst c6
      rw [if_pos rfl] at H
      obtain ⟨bq7, hbq7⟩ : ∃ b_ : Bool, b_ = ((rd_T23 l0_0 x3_1).f2) := ⟨_, rfl⟩
      replace H : (if bq7 = true then (some false) else (spec_CommitteeOk.l0 k1 (wrap64 (x3_1 + 1)) l0_0)) = some r := by rw [← hbq7] at H; exact H
      have Nbq7 := Aside0.mk hbq7
      clear hbq7
      (try rw [← Nbq7.out] at A5)
      by_cases c8 : bq7 = true
      ·subst c8
       rw [if_pos rfl] at H
       obtain rfl := Option.some.inj H
       obtain ⟨hcz9_0, hfz9_0⟩ := bK1 (w := wr) BK381
       have p382 : 0 ≤ (x3_1 : Int) := of_decide_eq_true (by first | (with_reducible assumption) | assumption)
       have q382 : x3_1 < (l0_0.length : Int) := of_decide_eq_true (by first | (with_reducible assumption) | assumption)
       obtain ⟨ad382, e382, hx382_0, hx382_1, hx382_2⟩ := at_T23 HR0_0.out x3_1 p382 q382
       (try rw [← Nbq7.out] at hx382_2)
       cases e382
       replace hx382_0 := (HB.out.cell (World.block_lt_of_cell? w _ hx382_0)).trans hx382_0
       replace hx382_1 := (HB.out.cell (World.block_lt_of_cell? w _ hx382_1)).trans hx382_1
       replace hx382_2 := (HB.out.cell (World.block_lt_of_cell? w _ hx382_2)).trans hx382_2
       replace p382 := eq_true p382
       replace q382 := eq_true q382
       go_wp2_with (first | ((with_reducible refine gate_callee (f := 65) rfl ?_); refine gL (some 16) Tryd.func65 #[.agg #[.int .i64 ((rd_T23 l0_0 x3_1).f0), .int .i64 ((rd_T23 l0_0 x3_1).f1), .bool true]] ?_; (with_reducible refine (spec_InGroup.calls k1 ((rd_T23 l0_0 x3_1).f0) ((rd_T23 l0_0 x3_1).f1) true true _ A5.out).mono ?_); rintro e w10 ⟨rfl, hb⟩; refine ⟨_, rfl, ?_⟩; replace BK381 := bB BK381 hb; replace HB := bS HB hb; (try clear hb); obtain ⟨hcz11_0, hfz11_0⟩ := bK1 (w := w10) BK381; have p384 : 0 ≤ (x3_1 : Int) := of_decide_eq_true (by first | (with_reducible assumption) | assumption); have q384 : x3_1 < (l0_0.length : Int) := of_decide_eq_true (by first | (with_reducible assumption) | assumption); obtain ⟨ad384, e384, hx384_0, hx384_1, hx384_2⟩ := at_T23 HR0_0.out x3_1 p384 q384; (try rw [← Nbq7.out] at hx384_2); obtain rfl : ad382 = ad384 := (by injection e384); replace hx384_0 := (HB.out.cell (World.block_lt_of_cell? w _ hx384_0)).trans hx384_0; replace hx384_1 := (HB.out.cell (World.block_lt_of_cell? w _ hx384_1)).trans hx384_1; replace hx384_2 := (HB.out.cell (World.block_lt_of_cell? w _ hx384_2)).trans hx384_2; replace p384 := eq_true p384; replace q384 := eq_true q384))
       go_ret
       exact ⟨rR, bZ HB⟩
      ·replace c8 := Bool.eq_false_iff.mpr c8
       subst c8
       rw [if_neg (show ¬ (false = true) by decide)] at H
       have H' := Aside0.mk H
       clear H
       obtain ⟨hcz12_0, hfz12_0⟩ := bK1 (w := wr) BK381
       have p382 : 0 ≤ (x3_1 : Int) := of_decide_eq_true (by first | (with_reducible assumption) | assumption)
       have q382 : x3_1 < (l0_0.length : Int) := of_decide_eq_true (by first | (with_reducible assumption) | assumption)
       obtain ⟨ad382, e382, hx382_0, hx382_1, hx382_2⟩ := at_T23 HR0_0.out x3_1 p382 q382
       (try rw [← Nbq7.out] at hx382_2)
       cases e382
       replace hx382_0 := (HB.out.cell (World.block_lt_of_cell? w _ hx382_0)).trans hx382_0
       replace hx382_1 := (HB.out.cell (World.block_lt_of_cell? w _ hx382_1)).trans hx382_1
       replace hx382_2 := (HB.out.cell (World.block_lt_of_cell? w _ hx382_2)).trans hx382_2
       replace p382 := eq_true p382
       replace q382 := eq_true q382
       go_wp2_with (first | ((with_reducible refine gate_callee (f := 65) rfl ?_); refine gL (some 16) Tryd.func65 #[.agg #[.int .i64 ((rd_T23 l0_0 x3_1).f0), .int .i64 ((rd_T23 l0_0 x3_1).f1), .bool false]] ?_; (with_reducible refine (spec_InGroup.calls k1 ((rd_T23 l0_0 x3_1).f0) ((rd_T23 l0_0 x3_1).f1) false true _ A5.out).mono ?_); rintro e w13 ⟨rfl, hb⟩; refine ⟨_, rfl, ?_⟩; replace BK381 := bB BK381 hb; replace HB := bS HB hb; (try clear hb); obtain ⟨hcz14_0, hfz14_0⟩ := bK1 (w := w13) BK381; have p384 : 0 ≤ (x3_1 : Int) := of_decide_eq_true (by first | (with_reducible assumption) | assumption); have q384 : x3_1 < (l0_0.length : Int) := of_decide_eq_true (by first | (with_reducible assumption) | assumption); obtain ⟨ad384, e384, hx384_0, hx384_1, hx384_2⟩ := at_T23 HR0_0.out x3_1 p384 q384; (try rw [← Nbq7.out] at hx384_2); obtain rfl : ad382 = ad384 := (by injection e384); replace hx384_0 := (HB.out.cell (World.block_lt_of_cell? w _ hx384_0)).trans hx384_0; replace hx384_1 := (HB.out.cell (World.block_lt_of_cell? w _ hx384_1)).trans hx384_1; replace hx384_2 := (HB.out.cell (World.block_lt_of_cell? w _ hx384_2)).trans hx384_2; replace p384 := eq_true p384; replace q384 := eq_true q384))
       go_roundg k1
       case measure => have := HK1.out; omega
       case rel => exact ⟨(wrap64 (x3_1 + 1)), rS, H', ⟨by have := HK1.out; omega⟩, ⟨bP BK381⟩, ⟨bZ HB⟩⟩
     ·replace c6 := Bool.eq_false_iff.mpr c6
      subst c6
      rw [if_neg (show ¬ (false = true) by decide)] at H
      obtain rfl := Option.some.inj H
      obtain ⟨hcz15_0, hfz15_0⟩ := bK1 (w := wr) BK381
      have p382 : 0 ≤ (x3_1 : Int) := of_decide_eq_true (by first | (with_reducible assumption) | assumption)
      have q382 : x3_1 < (l0_0.length : Int) := of_decide_eq_true (by first | (with_reducible assumption) | assumption)
      obtain ⟨ad382, e382, hx382_0, hx382_1, hx382_2⟩ := at_T23 HR0_0.out x3_1 p382 q382
      cases e382
      replace hx382_0 := (HB.out.cell (World.block_lt_of_cell? w _ hx382_0)).trans hx382_0
      replace hx382_1 := (HB.out.cell (World.block_lt_of_cell? w _ hx382_1)).trans hx382_1
      replace hx382_2 := (HB.out.cell (World.block_lt_of_cell? w _ hx382_2)).trans hx382_2
      replace p382 := eq_true p382
      replace q382 := eq_true q382
      go_wp2_with (first | ((with_reducible refine gate_callee (f := 65) rfl ?_); refine gL (some 16) Tryd.func65 #[.agg #[.int .i64 ((rd_T23 l0_0 x3_1).f0), .int .i64 ((rd_T23 l0_0 x3_1).f1), .bool ((rd_T23 l0_0 x3_1).f2)]] ?_; (with_reducible refine (spec_InGroup.calls k1 ((rd_T23 l0_0 x3_1).f0) ((rd_T23 l0_0 x3_1).f1) ((rd_T23 l0_0 x3_1).f2) false _ A5.out).mono ?_); rintro e w16 ⟨rfl, hb⟩; refine ⟨_, rfl, ?_⟩; replace BK381 := bB BK381 hb; replace HB := bS HB hb; (try clear hb)))
      go_ret
      exact ⟨rR, bZ HB⟩
    ·rw [if_neg c4] at H
     exact absurd H (by simp)
   ·rw [if_neg c3] at H
    have c3b0 : decide (x3_1 < (l0_0.length : Int)) = false := decide_eq_false c3
    clear c3
    obtain rfl := Option.some.inj H
    obtain ⟨hcz17_0, hfz17_0⟩ := bK1 (w := wr) BK381
    go_wp2
    go_ret
    exact ⟨rR, bZ HB⟩
/-! ### spec_PointText: function 61 -/
def spec_PointText.f (a0_0 : Int) (a0_1 : Int) (a0_2 : Bool) : Option (ByteArray) := (spec_PointOk.f a0_0 a0_1 a0_2).bind fun t386 => (if t386 = true then (if a0_2 = true then (some (⟨#[0, 0, 0]⟩ : ByteArray)) else (some (strOfNums (([((wrap64 (a0_0 + 1)) / 256) % 256, (wrap64 (a0_0 + 1)) % 256, (Int.tmod a0_1 2) % 256] : List Int))))) else (some (⟨#[]⟩ : ByteArray)))
set_option maxHeartbeats 8000000 in
set_option maxRecDepth 100000 in
theorem spec_PointText.calls (a0_0 : Int) (a0_1 : Int) (a0_2 : Bool) (r : ByteArray) (w : World) (h : spec_PointText.f a0_0 a0_1 a0_2 = some r) :
  Calls Tryd.prog 61 #[.agg #[.int .i64 a0_0, .int .i64 a0_1, .bool a0_2]] w fun e w' => e = .returned (.string r) ∧ Below w.heap.size w w' := by
 have hu23 := Tryd.underlying23
 have HB := Aside0.mk (Below.refl w.heap.size w)
 have H : ((spec_PointOk.f a0_0 a0_1 a0_2).bind fun t386 => (if t386 = true then (if a0_2 = true then (some (⟨#[0, 0, 0]⟩ : ByteArray)) else (some (strOfNums (([((wrap64 (a0_0 + 1)) / 256) % 256, (wrap64 (a0_0 + 1)) % 256, (Int.tmod a0_1 2) % 256] : List Int))))) else (some (⟨#[]⟩ : ByteArray)))) = some r := h
 clear h
 replace H := Option.bind_eq_some_iff.mp H
 obtain ⟨t386, A20, H⟩ := H
 have A2 := Aside0.mk A20
 clear A20
 by_cases c3 : t386 = true
 ·subst c3
  rw [if_pos rfl] at H
  by_cases c4 : a0_2 = true
  ·subst c4
   rw [if_pos rfl] at H
   obtain rfl := Option.some.inj H
   go_enter Tryd.func61, Tryd.ntmps61
   go_wp2_with (first | ((with_reducible refine gate_dst (N := 1) rfl ?_); refine bE 1 #[.int .i64 a0_0, .int .i64 a0_1, .bool true] 23 ?_; intro gb385 hg w5 hbox hb; have BK385 := Aside0.mk (hbox); have GW385 := bG HB hg; have GE385 := bG HB hg; replace HB := bS HB hb; clear hb hbox hg; obtain ⟨hcz6_0, hcz6_1, hcz6_2, hfz6_0, hfz6_1, hfz6_2⟩ := bK3 (w := w5) BK385) | ((with_reducible refine gate_callee (f := 87) rfl ?_); refine gL (some 5) Tryd.func87 #[.agg #[.int .i64 a0_0, .int .i64 a0_1, .bool true]] ?_; (with_reducible refine (spec_PointOk.calls a0_0 a0_1 true true _ A2.out).mono ?_); rintro e w7 ⟨rfl, hb⟩; refine ⟨_, rfl, ?_⟩; replace BK385 := bB BK385 hb; replace HB := bS HB hb; (try clear hb); obtain ⟨hcz8_0, hcz8_1, hcz8_2, hfz8_0, hfz8_1, hfz8_2⟩ := bK3 (w := w7) BK385))
   go_ret
   exact ⟨rR, bZ HB⟩
  ·replace c4 := Bool.eq_false_iff.mpr c4
   subst c4
   rw [if_neg (show ¬ (false = true) by decide)] at H
   obtain ⟨y387, hy387⟩ : ∃ y_ : List Int, y_ = (([((wrap64 (a0_0 + 1)) / 256) % 256, (wrap64 (a0_0 + 1)) % 256, (Int.tmod a0_1 2) % 256] : List Int)) := ⟨_, rfl⟩
   replace H : (some (strOfNums y387)) = some r := by first | (rw [hy387]; with_reducible exact H) | (have H2_ := (Option.bind_some _ _).symm.trans H; rw [hy387]; with_reducible exact H2_) | (have H2_ := (Option.bind_some _ _).symm.trans H; with_reducible exact H2_) | with_reducible exact H | (rw [hy387]; exact H) | exact H
   have Ny387 := Aside0.mk hy387
   clear hy387
   obtain rfl := Option.some.inj H
   go_enter Tryd.func61, Tryd.ntmps61
   go_wp2_with (first | ((with_reducible refine gate_dst (N := 1) rfl ?_); refine bE 1 #[.int .i64 a0_0, .int .i64 a0_1, .bool false] 23 ?_; intro gb385 hg w9 hbox hb; have BK385 := Aside0.mk (hbox); have GW385 := bG HB hg; have GE385 := bG HB hg; replace HB := bS HB hb; clear hb hbox hg; obtain ⟨hcz10_0, hcz10_1, hcz10_2, hfz10_0, hfz10_1, hfz10_2⟩ := bK3 (w := w9) BK385) | ((with_reducible refine gate_callee (f := 87) rfl ?_); refine gL (some 5) Tryd.func87 #[.agg #[.int .i64 a0_0, .int .i64 a0_1, .bool false]] ?_; (with_reducible refine (spec_PointOk.calls a0_0 a0_1 false true _ A2.out).mono ?_); rintro e w11 ⟨rfl, hb⟩; refine ⟨_, rfl, ?_⟩; replace BK385 := bB BK385 hb; replace HB := bS HB hb; (try clear hb); obtain ⟨hcz12_0, hcz12_1, hcz12_2, hfz12_0, hfz12_1, hfz12_2⟩ := bK3 (w := w11) BK385) | ((with_reducible refine gate_dst (N := 21) rfl ?_); refine Kd.R_lit (Kd.int .u8) _ 5 ?hg (N := 21) ?hd (xs := ([((wrap64 (a0_0 + 1)) / 256) % 256, (wrap64 (a0_0 + 1)) % 256, (Int.tmod a0_1 2) % 256] : List Int)) (inner := [.int .u8 (((wrap64 (a0_0 + 1)) / 256) % 256), .int .u8 ((wrap64 (a0_0 + 1)) % 256), .int .u8 ((Int.tmod a0_1 2) % 256)]) (ok := fun _ => True) (okp := fun _ => True) ?hr ?hp (fun _ hk => hk) trivial (Below.refl _ _) (Nat.le_refl _) (by simp) ?_; (case hd => rfl); (case hg => rfl); (case hr => first | (go_simp; done) | (go_simp; rfl)); (case hp => exact (Reps.one (show Kd.M (Kd.int .u8) _ _ _ (((wrap64 (a0_0 + 1)) / 256) % 256) [.int .u8 (((wrap64 (a0_0 + 1)) / 256) % 256)] from rfl) (Reps.one (show Kd.M (Kd.int .u8) _ _ _ ((wrap64 (a0_0 + 1)) % 256) [.int .u8 ((wrap64 (a0_0 + 1)) % 256)] from rfl) (Reps.one (show Kd.M (Kd.int .u8) _ _ _ ((Int.tmod a0_1 2) % 256) [.int .u8 ((Int.tmod a0_1 2) % 256)] from rfl) (Reps.none _ _))))); intro v388 w13 ho14 hb hg_ hnew_; clear hg_ hnew_; (first | rw [← Ny387.out] at ho14 | (simp only [Int.reduceToNat] at ho14; rw [← Ny387.out] at ho14)); have HO389 := Aside0.mk (Kd.R_lower ho14 (below_size (bZ HB))); replace BK385 := bB BK385 hb; replace HB := bS HB hb; clear hb ho14; have hcv15 := own_string (P := Tryd.prog) Tryd.underlying46 Tryd.underlying5 Tryd.underlying9 (Kd.own_of_R HO389.out)))
   go_ret
   exact ⟨rR, bZ HB⟩
 ·replace c3 := Bool.eq_false_iff.mpr c3
  subst c3
  rw [if_neg (show ¬ (false = true) by decide)] at H
  obtain rfl := Option.some.inj H
  go_enter Tryd.func61, Tryd.ntmps61
  go_wp2_with (first | ((with_reducible refine gate_dst (N := 1) rfl ?_); refine bE 1 #[.int .i64 a0_0, .int .i64 a0_1, .bool a0_2] 23 ?_; intro gb385 hg w16 hbox hb; have BK385 := Aside0.mk (hbox); have GW385 := bG HB hg; have GE385 := bG HB hg; replace HB := bS HB hb; clear hb hbox hg; obtain ⟨hcz17_0, hcz17_1, hcz17_2, hfz17_0, hfz17_1, hfz17_2⟩ := bK3 (w := w16) BK385) | ((with_reducible refine gate_callee (f := 87) rfl ?_); refine gL (some 5) Tryd.func87 #[.agg #[.int .i64 a0_0, .int .i64 a0_1, .bool a0_2]] ?_; (with_reducible refine (spec_PointOk.calls a0_0 a0_1 a0_2 false _ A2.out).mono ?_); rintro e w18 ⟨rfl, hb⟩; refine ⟨_, rfl, ?_⟩; replace BK385 := bB BK385 hb; replace HB := bS HB hb; (try clear hb)))
  go_ret
  exact ⟨rR, bZ HB⟩
end Go.Proofs.YtkdmplfldfagnaaDoor.Pf
end
section
namespace Go.Proofs.YtkdmplfldfagnaaDoor.Kp
open Go.RowKit Go.Proofs.YtkdmplfldfagnaaDoorW.PrintWords Go.Proofs.YtkdmplfldfagnaaDoorW.PrintLast Go.Proofs.YtkdmplfldfagnaaDoorW.PrintMore
attribute [local go_sem] max2_int min2_int max_two min_two max_three min_three max_four min_four   -- for this text's walks alone
set_option linter.unusedVariables false
set_option linter.unusedSimpArgs false
def errW : Option Int → Value
  | none => .nilIface
  | some c => .iface 0 (.int .i64 c)
theorem errW_none : errW none = .nilIface := rfl
theorem errW_some (c : Int) : errW (some c) = .iface 0 (.int .i64 c) := rfl

theorem info5 : (Tryd.prog.info? 5).map (fun i => (i.zero, i.size, i.bytes)) = some (some (.int .u8 0), 1, 1) := by kernel_rfl
-- the values' own types
/-! ### bits_RotateLeft64: function 142 -/
def bits_RotateLeft64.f (a0 : Int) (a1 : Int) : Option (Int) := if 0 ≤ (Go.bits .and .u64 (IntKind.u64.wrap (a1)) 63) then (if 0 ≤ (IntKind.u64.wrap (64 - (Go.bits .and .u64 (IntKind.u64.wrap (a1)) 63))) then (some (Go.bits .or .u64 (shl .u64 a0 (Go.bits .and .u64 (IntKind.u64.wrap (a1)) 63)) (shr .u64 a0 (IntKind.u64.wrap (64 - (Go.bits .and .u64 (IntKind.u64.wrap (a1)) 63)))))) else (none)) else (none)
set_option maxHeartbeats 8000000 in
set_option maxRecDepth 100000 in
theorem bits_RotateLeft64.calls (a0 : Int) (a1 : Int) (r : Int) (w : World) (h : bits_RotateLeft64.f a0 a1 = some r) :
  Calls Tryd.prog 142 #[.int .u64 a0, .int .i64 a1] w fun e w' => e = .returned (.int .u64 r) ∧ Drawn0 w w' := by
 have H : (if 0 ≤ (Go.bits .and .u64 (IntKind.u64.wrap (a1)) 63) then (if 0 ≤ (IntKind.u64.wrap (64 - (Go.bits .and .u64 (IntKind.u64.wrap (a1)) 63))) then (some (Go.bits .or .u64 (shl .u64 a0 (Go.bits .and .u64 (IntKind.u64.wrap (a1)) 63)) (shr .u64 a0 (IntKind.u64.wrap (64 - (Go.bits .and .u64 (IntKind.u64.wrap (a1)) 63)))))) else (none)) else (none)) = some r := h
 clear h
 obtain ⟨ji3, hji3⟩ : ∃ j_ : Int, (Go.bits .and .u64 (IntKind.u64.wrap (a1)) 63) = j_ := ⟨_, rfl⟩
 replace H : (if 0 ≤ (ji3) then (if 0 ≤ (IntKind.u64.wrap (64 - (ji3))) then (some (Go.bits .or .u64 (shl .u64 a0 (ji3)) (shr .u64 a0 (IntKind.u64.wrap (64 - (ji3)))))) else (none)) else (none)) = some r := by first | (rw [hji3] at H; exact H) | (simp only [hji3] at H ⊢; exact H)
 by_cases c4 : 0 ≤ (ji3)
 ·rw [if_pos c4] at H
  have c4b0 := eq_true c4
  have c4b1 : decide (0 ≤ (ji3)) = true := decide_eq_true c4
  clear c4
  obtain ⟨ji5, hji5⟩ : ∃ j_ : Int, (shl .u64 a0 (ji3)) = j_ := ⟨_, rfl⟩
  replace H : (if 0 ≤ (IntKind.u64.wrap (64 - (ji3))) then (some (Go.bits .or .u64 (ji5) (shr .u64 a0 (IntKind.u64.wrap (64 - (ji3)))))) else (none)) = some r := by first | (rw [hji5] at H; exact H) | (simp only [hji5] at H ⊢; exact H)
  have hji5_ : (IntKind.u64.wrap (a0 * 2 ^ min (ji3).toNat 64)) = ji5 := hji5
  have hji5z : (ji3) ≤ 64 → (IntKind.u64.wrap (a0 * 2 ^ (ji3).toNat)) = ji5 := shl_small hji5
  obtain ⟨ji6, hji6⟩ : ∃ j_ : Int, (IntKind.u64.wrap (64 - (ji3))) = j_ := ⟨_, rfl⟩
  replace H : (if 0 ≤ (ji6) then (some (Go.bits .or .u64 (ji5) (shr .u64 a0 (ji6)))) else (none)) = some r := by first | (rw [hji6] at H; exact H) | (simp only [hji6] at H ⊢; exact H)
  by_cases c7 : 0 ≤ (ji6)
  ·rw [if_pos c7] at H
   have c7b0 := eq_true c7
   have c7b1 : decide (0 ≤ (ji6)) = true := decide_eq_true c7
   clear c7
   obtain ⟨ji8, hji8⟩ : ∃ j_ : Int, (shr .u64 a0 (ji6)) = j_ := ⟨_, rfl⟩
   replace H : (some (Go.bits .or .u64 (ji5) (ji8))) = some r := by first | (rw [hji8] at H; exact H) | (simp only [hji8] at H ⊢; exact H)
   have hji8_ : (a0 / 2 ^ min (ji6).toNat 64) = ji8 := hji8
   have hji8z : (ji6) ≤ 64 → (a0 / 2 ^ (ji6).toNat) = ji8 := shr_small hji8
   obtain rfl := Option.some.inj H
   go_enter Tryd.func142, Tryd.ntmps142
   go_wp2
   go_ret
   exact ⟨by first | rfl | (simp; done) | (simp only [← hji3, ← hji5, ← hji6, ← hji8] <;> (first | rfl | simp)) | (simp [*]; done), by repeat (first | exact Drawn0.refl _ | apply Drawn0.step)⟩
  ·rw [if_neg c7] at H
   exact absurd H (by simp)
 ·rw [if_neg c4] at H
  exact absurd H (by simp)
end Go.Proofs.YtkdmplfldfagnaaDoor.Kp
end
section
/- What is proved here: steps of Keccak as the program and the reference write it: what each function answers. No conditions but those that each theorem names. -/
namespace Go.Proofs.YtkdmplfldfagnaaDoor.Kp
open Go.RowKit Go.Proofs.YtkdmplfldfagnaaDoorW.PrintWords Go.Proofs.YtkdmplfldfagnaaDoorW.PrintLast Go.Proofs.YtkdmplfldfagnaaDoorW.PrintMore
set_option linter.unusedVariables false
set_option linter.unusedSimpArgs false
def ga (s : List Int) (i : Nat) : Int := s.getD i 0
def ue (xs : List Int) : Array Value := (xs.map (Value.int .u64)).toArray
theorem ue_get {xs : List Int} {i : Nat} (h : i < xs.length) : (ue xs)[i]? = some (.int .u64 (ga xs i)) := by
  unfold ue ga
  rw [List.getElem?_toArray, List.getElem?_map, List.getElem?_eq_getElem h, List.getD_eq_getElem?_getD, List.getElem?_eq_getElem h]
  rfl
theorem ue_set (xs : List Int) (i : Nat) (v : Int) : (ue xs).setIfInBounds i (.int .u64 v) = ue (xs.set i v) := by
  unfold ue
  rw [List.setIfInBounds_toArray, List.map_set]
abbrev xr (a b : Int) : Int := Go.bits .xor .u64 a b
def turnsL : List Int := [0, 1, 62, 28, 27, 36, 44, 6, 55, 20, 3, 10, 43, 25, 39, 41, 45, 15, 21, 8, 18, 2, 61, 56, 14]
def rcL : List Int := [1, 32898, 9223372036854808714, 9223372039002292224, 32907, 2147483649, 9223372039002292353, 9223372036854808585, 138, 136, 2147516425, 2147483658, 2147516555, 9223372036854775947, 9223372036854808713, 9223372036854808579, 9223372036854808578, 9223372036854775936, 32778, 9223372039002259466, 9223372039002292353, 9223372036854808704, 2147483649, 9223372039002292232]
/-- The tables stand in memory. -/
structure Tab (w : World) : Prop where
  t : ∀ i : Nat, i < 25 → w.cell? ⟨0, i, none⟩ = some (.int .i64 (ga turnsL i))
  r : ∀ i : Nat, i < 24 → w.cell? ⟨1, i, none⟩ = some (.int .u64 (ga rcL i))
  s : 0 < w.heap.size ∧ 1 < w.heap.size
theorem Tab.below {w w' : World} (h : Tab w) (hb : Below w.heap.size w w') : Tab w' :=
  ⟨fun i hi => (hb.cell (p := ⟨0, i, none⟩) h.s.1).trans (h.t i hi), fun i hi => (hb.cell (p := ⟨1, i, none⟩) h.s.2).trans (h.r i hi), ⟨Nat.lt_of_lt_of_le h.s.1 hb.size, Nat.lt_of_lt_of_le h.s.2 hb.size⟩⟩
def rl (v n : Int) : Int := Go.bits .or .u64 (shl .u64 v (Go.bits .and .u64 (IntKind.u64.wrap n) 63)) (shr .u64 v (IntKind.u64.wrap (64 - (Go.bits .and .u64 (IntKind.u64.wrap n) 63))))
def rok (n : Int) : Bool := decide (0 ≤ (Go.bits .and .u64 (IntKind.u64.wrap n) 63)) && decide (0 ≤ (IntKind.u64.wrap (64 - (Go.bits .and .u64 (IntKind.u64.wrap n) 63))))
theorem rot_f {v n : Int} (h : rok n = true) : bits_RotateLeft64.f v n = some (rl v n) := by
  unfold rok at h
  simp only [Bool.and_eq_true, decide_eq_true_eq] at h
  unfold bits_RotateLeft64.f rl
  rw [if_pos h.1, if_pos h.2]
theorem rok_one : rok 1 = true := by decide +kernel
theorem rok_turns : ∀ i : Fin 25, rok (ga turnsL i.val) = true := by decide +kernel
def col (s : List Int) (x : Nat) : Int := xr (xr (xr (xr (ga s x) (ga s (x + 5))) (ga s (x + 10))) (ga s (x + 15))) (ga s (x + 20))
def cst (s : List Int) : Nat → List Int
  | 0 => List.replicate 5 0
  | k + 1 => (cst s k).set k (col s k)
theorem cst_len (s : List Int) (k : Nat) : (cst s k).length = 5 := by
  induction k with
  | zero => rfl
  | succ k ih => simp [cst, ih]
def dd (c : List Int) (x : Nat) : Int := xr (ga c ((x + 4) % 5)) (rl (ga c ((x + 1) % 5)) 1)
def bat (s c : List Int) (y x : Nat) : Int := rl (xr (ga s (x + 5 * y)) (dd c x)) (ga turnsL (x + 5 * y))
def bst (s c : List Int) : Nat → List Int
  | 0 => List.replicate 25 0
  | m + 1 => (bst s c m).set (m / 5 + 5 * ((2 * (m % 5) + 3 * (m / 5)) % 5)) (bat s c (m / 5) (m % 5))
theorem bst_len (s c : List Int) (k : Nat) : (bst s c k).length = 25 := by
  induction k with
  | zero => rfl
  | succ k ih => simp [bst, ih]
theorem bst_succ (s c : List Int) {y x : Nat} (h : x < 5) : bst s c (5 * y + (x + 1)) = (bst s c (5 * y + x)).set (y + 5 * ((2 * x + 3 * y) % 5)) (bat s c y x) := by
  rw [show 5 * y + (x + 1) = (5 * y + x) + 1 by omega]
  simp only [bst]
  rw [show (5 * y + x) / 5 = y by omega, show (5 * y + x) % 5 = x by omega]
def u64not (x : Int) : Int := Go.bits .xor .u64 IntKind.u64.max x
def chi (b : List Int) (y x : Nat) : Int := xr (ga b (x + 5 * y)) (Go.bits .and .u64 (u64not (ga b ((x + 1) % 5 + 5 * y))) (ga b ((x + 2) % 5 + 5 * y)))
def sst (s b : List Int) : Nat → List Int
  | 0 => s
  | m + 1 => (sst s b m).set m (chi b (m / 5) (m % 5))
theorem sst_len (s b : List Int) (k : Nat) : (sst s b k).length = s.length := by
  induction k with
  | zero => rfl
  | succ k ih => simp [sst, ih]
theorem sst_succ (s b : List Int) {y x : Nat} (h : x < 5) : sst s b (5 * y + (x + 1)) = (sst s b (5 * y + x)).set (x + 5 * y) (chi b y x) := by
  rw [show 5 * y + (x + 1) = (5 * y + x) + 1 by omega]
  simp only [sst]
  rw [show (5 * y + x) / 5 = y by omega, show (5 * y + x) % 5 = x by omega, show 5 * y + x = x + 5 * y by omega]
def roundI (s : List Int) (n : Nat) : List Int :=
  let t := sst s (bst s (cst s 5) 25) 25
  t.set 0 (xr (ga t 0) (ga rcL n))
theorem roundI_len (s : List Int) (n : Nat) : (roundI s n).length = s.length := by simp [roundI, sst_len]
def impl_round.T4 : Bool × List (List Nat × List Nat) := (true, [([], []), ([], []), ([], []), ([1], [1]), ([3, 2], [2, 3]), ([4], [4]), ([], []), ([], []), ([7], [7]), ([6], [6]), ([9, 8], [8, 9]), ([10], [10]), ([5, 11], [5, 11]), ([], []), ([], []), ([14], [14]), ([13], [13]), ([16, 15], [15, 16]), ([17], [17]), ([12, 18], [12, 18]), ([], []), ([], []), ([21], [21]), ([20], [20]), ([23, 22], [22, 23]), ([24], [24]), ([19, 25], [19, 25]), ([], []), ([], []), ([28], [28]), ([27], [27]), ([30, 29], [29, 30]), ([31], [31]), ([26, 32], [26, 32]), ([0, 0, 1, 2, 3, 4, 5, 6, 7, 8, 9, 10, 11, 12, 13, 14, 15, 16, 17, 18, 19, 20, 21, 22, 23, 24, 25, 26, 27, 28, 29, 30, 31, 32, 33], [0]), ([34, 33, 0, 1, 2, 3, 4, 5, 6, 7, 8, 9, 10, 11, 12, 13, 14, 15, 16, 17, 18, 19, 20, 21, 22, 23, 24, 25, 26, 27, 28, 29, 30, 31, 32, 33], [33, 34])])
def impl_round.B4 : List Nat := [0, 0, 0, 2, 14, 30, 0, 0, 128, 64, 960, 1984, 4094, 0, 0, 16384, 8192, 122880, 253952, 524286, 0, 0, 2097152, 1048576, 15728640, 32505856, 67108862, 0, 0, 268435456, 134217728, 2013265920, 4160749568, 8589934590, 17179869183, 34359738367]
theorem impl_round.tab4 : rtab .any (opsOf Tryd.f122 4) = impl_round.T4 := by kernel_rfl
theorem impl_round.bits4 : waitsOk impl_round.T4.2 impl_round.B4 = true := by kernel_rfl
def impl_round.T13 : Bool × List (List Nat × List Nat) := (true, [([], []), ([0], [0]), ([1], [1]), ([2], [2]), ([3], [3]), ([], []), ([5], [5]), ([6], [6]), ([7], [7]), ([8], [8]), ([9], [9]), ([4, 10], [4, 10]), ([11, 10, 0, 1, 2, 3, 4, 5, 6, 7, 8, 9, 10, 11], [11])])
def impl_round.B13 : List Nat := [0, 1, 3, 7, 15, 0, 32, 96, 224, 480, 992, 2047, 4095]
theorem impl_round.tab13 : rtab .any (opsOf Tryd.f122 13) = impl_round.T13 := by kernel_rfl
theorem impl_round.bits13 : waitsOk impl_round.T13.2 impl_round.B13 = true := by kernel_rfl
def impl_round.T14 : Bool × List (List Nat × List Nat) := (true, [([], []), ([], []), ([1], [1]), ([], []), ([3], [3]), ([2, 4], [2, 4]), ([5], [5]), ([6], [6]), ([0, 7], [0, 7]), ([], []), ([], []), ([], []), ([11], [11]), ([10, 12], [10, 12]), ([9], [9]), ([14, 13], [13, 14]), ([15], [15]), ([], []), ([16, 17], [16, 17]), ([], []), ([], []), ([20], [20]), ([19, 21], [19, 21]), ([22], [22]), ([23], [23]), ([18, 24], [18, 24]), ([8, 0, 1, 2, 3, 4, 5, 6, 7, 8, 9, 10, 11, 12, 13, 14, 15, 16, 17, 18, 19, 20, 21, 22, 23, 24, 25], [8]), ([26, 25, 25, 0, 1, 2, 3, 4, 5, 6, 7, 8, 9, 10, 11, 12, 13, 14, 15, 16, 17, 18, 19, 20, 21, 22, 23, 24, 25], [25, 26])])
def impl_round.B14 : List Nat := [0, 0, 2, 0, 8, 30, 62, 126, 255, 0, 0, 0, 2048, 7168, 512, 32256, 65024, 0, 261632, 0, 0, 1048576, 3670016, 7864320, 16252928, 33553920, 67108863, 134217727]
theorem impl_round.tab14 : rtab .any (opsOf Tryd.f122 14) = impl_round.T14 := by kernel_rfl
theorem impl_round.bits14 : waitsOk impl_round.T14.2 impl_round.B14 = true := by kernel_rfl
def impl_round.T23 : Bool × List (List Nat × List Nat) := (true, [([], []), ([], []), ([], []), ([2], [2]), ([1, 3], [1, 3]), ([], []), ([], []), ([6], [6]), ([5, 7], [5, 7]), ([8], [8]), ([9], [9]), ([], []), ([11], [11]), ([12], [12]), ([], []), ([14], [14]), ([13, 15], [13, 15]), ([16], [16]), ([17], [17]), ([18], [18]), ([], []), ([20], [20]), ([21], [21]), ([], []), ([23], [23]), ([22, 24], [22, 24]), ([25], [25]), ([26], [26]), ([19, 27], [19, 27]), ([10, 28], [10, 28]), ([0], [0]), ([30, 4, 0, 1, 2, 3, 4, 5, 6, 7, 8, 9, 10, 11, 12, 13, 14, 15, 16, 17, 18, 19, 20, 21, 22, 23, 24, 25, 26, 27, 28, 29], [4, 30]), ([31, 29, 0, 1, 2, 3, 4, 5, 6, 7, 8, 9, 10, 11, 12, 13, 14, 15, 16, 17, 18, 19, 20, 21, 22, 23, 24, 25, 26, 27, 28, 29], [29, 31])])
def impl_round.B23 : List Nat := [0, 0, 0, 4, 14, 0, 0, 64, 224, 480, 992, 0, 2048, 6144, 0, 16384, 63488, 129024, 260096, 522240, 0, 1048576, 3145728, 0, 8388608, 32505856, 66060288, 133169152, 268433408, 536870880, 1, 2147483647, 4294967295]
theorem impl_round.tab23 : rtab .any (opsOf Tryd.f122 23) = impl_round.T23 := by kernel_rfl
theorem impl_round.bits23 : waitsOk impl_round.T23.2 impl_round.B23 = true := by kernel_rfl
def impl_round.T26 : Bool × List (List Nat × List Nat) := (true, [([], []), ([0], [0]), ([1], [1]), ([2], [2]), ([], []), ([4], [4]), ([5], [5]), ([3, 6], [3, 6]), ([0], [0]), ([8, 0, 1, 2, 3, 4, 5, 6, 7], [8]), ([9, 7, 0, 1, 2, 3, 4, 5, 6, 7], [7, 9])])
def impl_round.B26 : List Nat := [0, 1, 3, 7, 0, 16, 48, 127, 1, 511, 1023]
theorem impl_round.tab26 : rtab .any (opsOf Tryd.f122 26) = impl_round.T26 := by kernel_rfl
theorem impl_round.bits26 : waitsOk impl_round.T26.2 impl_round.B26 = true := by kernel_rfl
set_option maxHeartbeats 8000000 in
set_option maxRecDepth 100000 in
theorem impl_round.calls (g : Nat) (s : List Int) (hs : s.length = 25) (n : Int) (hn0 : 0 ≤ n) (hn1 : n < 24) (w0 w : World) (hT : Tab w0) (hB : Below w0.heap.size w0 w) (hg : w0.heap.size ≤ g) (hA : w.heap[g]? = some (.cells (ue s) 97 (0, 0))) :
    Calls Tryd.prog 122 #[.pointer (some ⟨g, 0, none⟩), .int .i64 n] w fun e w' => e = .returned (.tuple #[]) ∧ w'.heap[g]? = some (.cells (ue (roundI s n.toNat)) 97 (0, 0)) ∧ Below w0.heap.size w0 w' := by
  have HT := Aside0.mk hT
  have HB := Aside0.mk hB
  have BKs := Aside0.mk hA
  have GEs := Aside0.mk hg
  have HN := Aside0.mk (show 0 ≤ n ∧ n < 24 from ⟨hn0, hn1⟩)
  have HS := Aside0.mk hs
  clear hT hB hA hg hn0 hn1 hs
  go_enter Tryd.func122, Tryd.ntmps122
  go_wp2_with (first | ((with_reducible refine gate_dst (N := 4) rfl ?_); refine box_event ?hg (N := 4) ?hd (cs := ue (List.replicate 5 0)) (t := 123) ?hr ?_; (case hd => rfl); (case hg => rfl); (case hr => first | (go_simp; done) | (go_simp; rfl)); intro gc hg w1_ hbox hb; have n0_ := Aside0.mk (blk_below (by (with_reducible repeat (first | refine blk_drewN ?_ _ | refine blk_drew ?_)); exact BKs.out) hb); have n1_ := Aside0.mk (below_then (show Below w0.heap.size w0 _ by repeat (first | exact HB.out | apply Below.drew | apply pw_below_drewN | refine Below.setCell ?_ GEs.out _ | refine Below.setCell ?_ GEc.out _ | refine Below.setCell ?_ GEb.out _)) (Below.size (show Below w0.heap.size w0 _ by repeat (first | exact HB.out | apply Below.drew | apply pw_below_drewN | refine Below.setCell ?_ GEs.out _ | refine Below.setCell ?_ GEc.out _ | refine Below.setCell ?_ GEb.out _))) hb); have n2_ := Aside0.mk (show w0.heap.size ≤ gc by rw [hg]; exact (Below.size (show Below w0.heap.size w0 _ by repeat (first | exact HB.out | apply Below.drew | apply pw_below_drewN | refine Below.setCell ?_ GEs.out _ | refine Below.setCell ?_ GEc.out _ | refine Below.setCell ?_ GEb.out _)))); have n3_ := Aside0.mk (show g ≠ gc by rw [hg]; exact Nat.ne_of_lt (blk_lt (o := .cells _ _ _) (by (with_reducible repeat (first | refine blk_drewN ?_ _ | refine blk_drew ?_)); exact BKs.out))); have BKc := Aside0.mk hbox; clear BKs HB; have BKs := n0_; have HB := n1_; have GEc := n2_; have NEsc := n3_; clear n0_ n1_ n2_ n3_ hb hbox hg))
  go_loopg [12] 6 (fun kq v12 w' => ∃ (k : Nat) (x : Int), v12 = .int .i64 x ∧ Aside0 (x = (k : Int) ∧ k + kq = 6 ∧ k ≤ 5) ∧ Aside0 (w'.heap[gc]? = some (.cells (ue (cst s k)) 123 (0, 0))) ∧ Aside0 (w'.heap[g]? = some (.cells (ue (s)) 97 (0, 0))) ∧ Aside0 (Below w0.heap.size w0 w'))
  case atStart => exact ⟨0, 0, rfl, ⟨rfl, rfl, by decide⟩, ⟨by (with_reducible repeat (first | refine blk_drewN ?_ _ | refine blk_drew ?_)); exact BKc.out⟩, ⟨by (with_reducible repeat (first | refine blk_drewN ?_ _ | refine blk_drew ?_)); exact BKs.out⟩, ⟨(by repeat (first | exact HB.out | apply Below.drew | apply pw_below_drewN | refine Below.setCell ?_ GEs.out _ | refine Below.setCell ?_ GEc.out _ | refine Below.setCell ?_ GEb.out _))⟩⟩
  case round =>
    clear BKc BKs HB
    obtain ⟨K1, x, rfl, HK1, BKc, BKs, HB⟩ := hrel
    cases gk with
    | zero => exact absurd HK1.out (by omega)
    | succ k1 =>
      by_cases c : K1 < 5
      · have c0 : decide (x < 5) = true := decide_eq_true (by have := HK1.out; omega)
        have HC1 := Aside0.mk c
        clear c
        obtain ⟨x5, hx5, ex5⟩ : ∃ y_, wrap64 (x + 5) = y_ ∧ Aside0 (y_ = ((K1 + 5 : Nat) : Int)) := ⟨_, rfl, ⟨by have := HK1.out; have := HC1.out; have := HS.out; first | (unfold wrap64; omega) | (rw [Int.tmod_eq_emod_of_nonneg (by omega)]; omega)⟩⟩
        obtain ⟨x10, hx10, ex10⟩ : ∃ y_, wrap64 (x + 10) = y_ ∧ Aside0 (y_ = ((K1 + 10 : Nat) : Int)) := ⟨_, rfl, ⟨by have := HK1.out; have := HC1.out; have := HS.out; have := ex5.out; first | (unfold wrap64; omega) | (rw [Int.tmod_eq_emod_of_nonneg (by omega)]; omega)⟩⟩
        obtain ⟨x15, hx15, ex15⟩ : ∃ y_, wrap64 (x + 15) = y_ ∧ Aside0 (y_ = ((K1 + 15 : Nat) : Int)) := ⟨_, rfl, ⟨by have := HK1.out; have := HC1.out; have := HS.out; have := ex5.out; have := ex10.out; first | (unfold wrap64; omega) | (rw [Int.tmod_eq_emod_of_nonneg (by omega)]; omega)⟩⟩
        obtain ⟨x20, hx20, ex20⟩ : ∃ y_, wrap64 (x + 20) = y_ ∧ Aside0 (y_ = ((K1 + 20 : Nat) : Int)) := ⟨_, rfl, ⟨by have := HK1.out; have := HC1.out; have := HS.out; have := ex5.out; have := ex10.out; have := ex15.out; first | (unfold wrap64; omega) | (rw [Int.tmod_eq_emod_of_nonneg (by omega)]; omega)⟩⟩
        have px : (0 ≤ x) = True := eq_true (by have := HK1.out; have := HC1.out; have := HS.out; have := ex5.out; have := ex10.out; have := ex15.out; have := ex20.out; omega)
        have qx_25 : (x < 25) = True := eq_true (by have := HK1.out; have := HC1.out; have := HS.out; have := ex5.out; have := ex10.out; have := ex15.out; have := ex20.out; omega)
        have px : (0 ≤ x) = True := eq_true (by have := HK1.out; have := HC1.out; have := HS.out; have := ex5.out; have := ex10.out; have := ex15.out; have := ex20.out; omega)
        have qx_5 : (x < 5) = True := eq_true (by have := HK1.out; have := HC1.out; have := HS.out; have := ex5.out; have := ex10.out; have := ex15.out; have := ex20.out; omega)
        have px5 : (0 ≤ x5) = True := eq_true (by have := HK1.out; have := HC1.out; have := HS.out; have := ex5.out; have := ex10.out; have := ex15.out; have := ex20.out; omega)
        have qx5_25 : (x5 < 25) = True := eq_true (by have := HK1.out; have := HC1.out; have := HS.out; have := ex5.out; have := ex10.out; have := ex15.out; have := ex20.out; omega)
        have px10 : (0 ≤ x10) = True := eq_true (by have := HK1.out; have := HC1.out; have := HS.out; have := ex5.out; have := ex10.out; have := ex15.out; have := ex20.out; omega)
        have qx10_25 : (x10 < 25) = True := eq_true (by have := HK1.out; have := HC1.out; have := HS.out; have := ex5.out; have := ex10.out; have := ex15.out; have := ex20.out; omega)
        have px15 : (0 ≤ x15) = True := eq_true (by have := HK1.out; have := HC1.out; have := HS.out; have := ex5.out; have := ex10.out; have := ex15.out; have := ex20.out; omega)
        have qx15_25 : (x15 < 25) = True := eq_true (by have := HK1.out; have := HC1.out; have := HS.out; have := ex5.out; have := ex10.out; have := ex15.out; have := ex20.out; omega)
        have px20 : (0 ≤ x20) = True := eq_true (by have := HK1.out; have := HC1.out; have := HS.out; have := ex5.out; have := ex10.out; have := ex15.out; have := ex20.out; omega)
        have qx20_25 : (x20 < 25) = True := eq_true (by have := HK1.out; have := HC1.out; have := HS.out; have := ex5.out; have := ex10.out; have := ex15.out; have := ex20.out; omega)
        have hc0 : wr.cell? ⟨g, x.toNat, none⟩ = some (.int .u64 (ga (s) x.toNat)) := (blk_cell BKs.out _).trans (ue_get (by rw [HS.out]; have := HK1.out; have := HC1.out; have := HS.out; have := ex5.out; have := ex10.out; have := ex15.out; have := ex20.out; omega))
        have hc1 : wr.cell? ⟨g, x5.toNat, none⟩ = some (.int .u64 (ga (s) x5.toNat)) := (blk_cell BKs.out _).trans (ue_get (by rw [HS.out]; have := HK1.out; have := HC1.out; have := HS.out; have := ex5.out; have := ex10.out; have := ex15.out; have := ex20.out; omega))
        have hc2 : wr.cell? ⟨g, x10.toNat, none⟩ = some (.int .u64 (ga (s) x10.toNat)) := (blk_cell BKs.out _).trans (ue_get (by rw [HS.out]; have := HK1.out; have := HC1.out; have := HS.out; have := ex5.out; have := ex10.out; have := ex15.out; have := ex20.out; omega))
        have hc3 : wr.cell? ⟨g, x15.toNat, none⟩ = some (.int .u64 (ga (s) x15.toNat)) := (blk_cell BKs.out _).trans (ue_get (by rw [HS.out]; have := HK1.out; have := HC1.out; have := HS.out; have := ex5.out; have := ex10.out; have := ex15.out; have := ex20.out; omega))
        have hc4 : wr.cell? ⟨g, x20.toNat, none⟩ = some (.int .u64 (ga (s) x20.toNat)) := (blk_cell BKs.out _).trans (ue_get (by rw [HS.out]; have := HK1.out; have := HC1.out; have := HS.out; have := ex5.out; have := ex10.out; have := ex15.out; have := ex20.out; omega))
        have hst : wr.cell? ⟨gc, x.toNat, none⟩ = some (.int .u64 (ga (cst s K1) x.toNat)) := (blk_cell BKc.out _).trans (ue_get (by rw [cst_len]; have := HK1.out; have := HC1.out; have := HS.out; have := ex5.out; have := ex10.out; have := ex15.out; have := ex20.out; omega))
        have hfz : wr.frozen? ⟨gc, x.toNat, none⟩ = false := blk_frozen BKc.out _
        go_wp2
        refine start_ (n := 36) (S := fun w' => w'.cell? ⟨g, x.toNat, none⟩ = some (.int .u64 (ga (s) x.toNat)) ∧ w'.cell? ⟨g, x5.toNat, none⟩ = some (.int .u64 (ga (s) x5.toNat)) ∧ w'.cell? ⟨g, x10.toNat, none⟩ = some (.int .u64 (ga (s) x10.toNat)) ∧ w'.cell? ⟨g, x15.toNat, none⟩ = some (.int .u64 (ga (s) x15.toNat)) ∧ w'.cell? ⟨g, x20.toNat, none⟩ = some (.int .u64 (ga (s) x20.toNat))) (ds := [35]) #[false, false, false, false, false, false, false, false, false, false, false, false, false, false, false, false, false, false, false, false, false, false, false, false, false, false, false, false, false, false, false, false, false, false, false, false] (by kernel_rfl) rfl rfl ⟨hc0, hc1, hc2, hc3, hc4⟩ (fun hHeld => ?_)
        refine with_tabW impl_round.tab4 impl_round.bits4 (fun HT_ HW_ => ?_)
        refine pI 0 (some 15) HT_.out ?_
        refine pI 1 (some 16) HT_.out ?_
        refine pI 2 (some 17) HT_.out ?_
        refine pI 3 (some 18) HT_.out ?_
        refine pI 4 (some 19) HT_.out ?_
        refine pI 6 (some 21) HT_.out ?_
        refine pI 7 (some 22) HT_.out ?_
        refine pI 8 (some 23) HT_.out ?_
        refine pI 9 (some 24) HT_.out ?_
        refine pI 10 (some 25) HT_.out ?_
        refine pI 13 (some 28) HT_.out ?_
        refine pI 14 (some 29) HT_.out ?_
        refine pI 15 (some 30) HT_.out ?_
        refine pI 16 (some 31) HT_.out ?_
        refine pI 17 (some 32) HT_.out ?_
        refine pI 20 (some 35) HT_.out ?_
        refine pI 21 (some 36) HT_.out ?_
        refine pI 22 (some 37) HT_.out ?_
        refine pI 23 (some 38) HT_.out ?_
        refine pI 24 (some 39) HT_.out ?_
        refine pI 27 (some 42) HT_.out ?_
        refine pI 28 (some 43) HT_.out ?_
        refine pI 29 (some 44) HT_.out ?_
        refine pI 30 (some 45) HT_.out ?_
        refine pI 31 (some 46) HT_.out ?_
        refine tI5 5 (some 20) HT_.out HW_.out hHeld ?_
        refine tI5 11 (some 26) HT_.out HW_.out hHeld ?_
        refine pI 12 (some 27) HT_.out ?_
        refine tI5 18 (some 33) HT_.out HW_.out hHeld ?_
        refine pI 19 (some 34) HT_.out ?_
        refine tI5 25 (some 40) HT_.out HW_.out hHeld ?_
        refine pI 26 (some 41) HT_.out ?_
        refine tI5 32 (some 47) HT_.out HW_.out hHeld ?_
        refine pI 33 (some 48) HT_.out ?_
        refine pI 34 (some 49) HT_.out ?_
        refine last_ (i := 35) (N := none) #[true, true, true, true, true, true, true, true, true, true, true, true, true, true, true, true, true, true, true, true, true, true, true, true, true, true, true, true, true, true, true, true, true, true, true, true] rfl rfl (one_of HT_.out (by kernel_rfl)) (by decide) (fun K hK => ?_)
        refine skip_ (w1 := ?_) (by rfl) rfl ?_ ?_
        rotate_left
        · go_simp
          rfl
        refine hK.out _ _ ?_
        clear hK K
        refine done_ (done_of HT_.out (by kernel_rfl)) ?_
        go_wp2
        go_roundg k1
        case measure => omega
        case rel => exact ⟨K1 + 1, _, rfl, ⟨by have := HK1.out; have := HC1.out; have := HS.out; have := ex5.out; have := ex10.out; have := ex15.out; have := ex20.out; first | omega | (unfold wrap64; omega), by have := HK1.out; have := HC1.out; have := HS.out; have := ex5.out; have := ex10.out; have := ex15.out; have := ex20.out; omega, by have := HK1.out; have := HC1.out; have := HS.out; have := ex5.out; have := ex10.out; have := ex15.out; have := ex20.out; omega⟩, ⟨by (with_reducible repeat (first | refine blk_drewN ?_ _ | refine blk_drew ?_)); refine blk_put (cs := ue (cst s K1)) (by (with_reducible repeat (first | refine blk_drewN ?_ _ | refine blk_drew ?_)); exact BKc.out) x.toNat _ ?_; rw [ue_set]; simp only [cst, col]; rw [show x.toNat = K1 by have := HK1.out; have := HC1.out; have := HS.out; have := ex5.out; have := ex10.out; have := ex15.out; have := ex20.out; omega, show x5.toNat = K1 + 5 by have := HK1.out; have := HC1.out; have := HS.out; have := ex5.out; have := ex10.out; have := ex15.out; have := ex20.out; omega, show x10.toNat = K1 + 10 by have := HK1.out; have := HC1.out; have := HS.out; have := ex5.out; have := ex10.out; have := ex15.out; have := ex20.out; omega, show x15.toNat = K1 + 15 by have := HK1.out; have := HC1.out; have := HS.out; have := ex5.out; have := ex10.out; have := ex15.out; have := ex20.out; omega, show x20.toNat = K1 + 20 by have := HK1.out; have := HC1.out; have := HS.out; have := ex5.out; have := ex10.out; have := ex15.out; have := ex20.out; omega]⟩, ⟨by (with_reducible repeat (first | refine blk_drewN ?_ _ | refine blk_drew ?_)); refine blk_far ?_ (p := ⟨gc, _, none⟩) NEsc.out _; (with_reducible repeat (first | refine blk_drewN ?_ _ | refine blk_drew ?_)); exact BKs.out⟩, ⟨(by repeat (first | exact HB.out | apply Below.drew | apply pw_below_drewN | refine Below.setCell ?_ GEs.out _ | refine Below.setCell ?_ GEc.out _ | refine Below.setCell ?_ GEb.out _))⟩⟩
      · have c0 : decide (x < 5) = false := decide_eq_false (by have := HK1.out; omega)
        obtain rfl : K1 = 5 := by have := HK1.out; omega
        clear c HK1
        go_wp2_with (first | ((with_reducible refine gate_dst (N := 6) rfl ?_); refine box_event ?hg (N := 6) ?hd (cs := ue (List.replicate 25 0)) (t := 97) ?hr ?_; (case hd => rfl); (case hg => rfl); (case hr => first | (go_simp; done) | (go_simp; rfl)); intro gb hg w1_ hbox hb; have n0_ := Aside0.mk (blk_below (by (with_reducible repeat (first | refine blk_drewN ?_ _ | refine blk_drew ?_)); exact BKs.out) hb); have n1_ := Aside0.mk (blk_below (by (with_reducible repeat (first | refine blk_drewN ?_ _ | refine blk_drew ?_)); exact BKc.out) hb); have n2_ := Aside0.mk (below_then (show Below w0.heap.size w0 _ by repeat (first | exact HB.out | apply Below.drew | apply pw_below_drewN | refine Below.setCell ?_ GEs.out _ | refine Below.setCell ?_ GEc.out _ | refine Below.setCell ?_ GEb.out _)) (Below.size (show Below w0.heap.size w0 _ by repeat (first | exact HB.out | apply Below.drew | apply pw_below_drewN | refine Below.setCell ?_ GEs.out _ | refine Below.setCell ?_ GEc.out _ | refine Below.setCell ?_ GEb.out _))) hb); have n3_ := Aside0.mk (show w0.heap.size ≤ gb by rw [hg]; exact (Below.size (show Below w0.heap.size w0 _ by repeat (first | exact HB.out | apply Below.drew | apply pw_below_drewN | refine Below.setCell ?_ GEs.out _ | refine Below.setCell ?_ GEc.out _ | refine Below.setCell ?_ GEb.out _)))); have n4_ := Aside0.mk (show g ≠ gb by rw [hg]; exact Nat.ne_of_lt (blk_lt (o := .cells _ _ _) (by (with_reducible repeat (first | refine blk_drewN ?_ _ | refine blk_drew ?_)); exact BKs.out))); have n5_ := Aside0.mk (show gc ≠ gb by rw [hg]; exact Nat.ne_of_lt (blk_lt (o := .cells _ _ _) (by (with_reducible repeat (first | refine blk_drewN ?_ _ | refine blk_drew ?_)); exact BKc.out))); have BKb := Aside0.mk hbox; clear BKs BKc HB; have BKs := n0_; have BKc := n1_; have HB := n2_; have GEb := n3_; have NEsb := n4_; have NEcb := n5_; clear n0_ n1_ n2_ n3_ n4_ n5_ hb hbox hg))
        go_loopg [51] 6 (fun kq v51 w' => ∃ (k : Nat) (x : Int), v51 = .int .i64 x ∧ Aside0 (x = (k : Int) ∧ k + kq = 6 ∧ k ≤ 5) ∧ Aside0 (w'.heap[gc]? = some (.cells (ue (cst s 5)) 123 (0, 0))) ∧ Aside0 (w'.heap[g]? = some (.cells (ue (s)) 97 (0, 0))) ∧ Aside0 (w'.heap[gb]? = some (.cells (ue (bst s (cst s 5) (5 * k))) 97 (0, 0))) ∧ Aside0 (Below w0.heap.size w0 w'))
        case atStart => exact ⟨0, 0, rfl, ⟨rfl, rfl, by decide⟩, ⟨by (with_reducible repeat (first | refine blk_drewN ?_ _ | refine blk_drew ?_)); exact BKc.out⟩, ⟨by (with_reducible repeat (first | refine blk_drewN ?_ _ | refine blk_drew ?_)); exact BKs.out⟩, ⟨by (with_reducible repeat (first | refine blk_drewN ?_ _ | refine blk_drew ?_)); exact BKb.out⟩, ⟨(by repeat (first | exact HB.out | apply Below.drew | apply pw_below_drewN | refine Below.setCell ?_ GEs.out _ | refine Below.setCell ?_ GEc.out _ | refine Below.setCell ?_ GEb.out _))⟩⟩
        case round =>
          clear BKc BKs BKb HB
          clear c0
          obtain ⟨K2, y, rfl, HK2, BKc, BKs, BKb, HB⟩ := hrel
          cases gk with
          | zero => exact absurd HK2.out (by omega)
          | succ k2 =>
            by_cases c : K2 < 5
            · have c0 : decide (y < 5) = true := decide_eq_true (by have := HK2.out; omega)
              have HC2 := Aside0.mk c
              clear c
              go_wp2
              go_loopg [54] 6 (fun kq v54 w' => ∃ (k : Nat) (x : Int), v54 = .int .i64 x ∧ Aside0 (x = (k : Int) ∧ k + kq = 6 ∧ k ≤ 5) ∧ Aside0 (w'.heap[gc]? = some (.cells (ue (cst s 5)) 123 (0, 0))) ∧ Aside0 (w'.heap[g]? = some (.cells (ue (s)) 97 (0, 0))) ∧ Aside0 (w'.heap[gb]? = some (.cells (ue (bst s (cst s 5) (5 * K2 + k))) 97 (0, 0))) ∧ Aside0 (Below w0.heap.size w0 w'))
              case atStart => exact ⟨0, 0, rfl, ⟨rfl, rfl, by decide⟩, ⟨by (with_reducible repeat (first | refine blk_drewN ?_ _ | refine blk_drew ?_)); exact BKc.out⟩, ⟨by (with_reducible repeat (first | refine blk_drewN ?_ _ | refine blk_drew ?_)); exact BKs.out⟩, ⟨by (with_reducible repeat (first | refine blk_drewN ?_ _ | refine blk_drew ?_)); exact BKb.out⟩, ⟨(by repeat (first | exact HB.out | apply Below.drew | apply pw_below_drewN | refine Below.setCell ?_ GEs.out _ | refine Below.setCell ?_ GEc.out _ | refine Below.setCell ?_ GEb.out _))⟩⟩
              case round =>
                clear BKc BKs BKb HB
                clear c0
                obtain ⟨K3, x, rfl, HK3, BKc, BKs, BKb, HB⟩ := hrel
                cases gk with
                | zero => exact absurd HK3.out (by omega)
                | succ k3 =>
                  by_cases c : K3 < 5
                  · have c0 : decide (x < 5) = true := decide_eq_true (by have := HK3.out; omega)
                    have HC3 := Aside0.mk c
                    clear c
                    obtain ⟨a1, ha1, ea1⟩ : ∃ y_, wrap64 (x + 4) = y_ ∧ Aside0 (y_ = ((K3 + 4 : Nat) : Int)) := ⟨_, rfl, ⟨by have := HK2.out; have := HC2.out; have := HK3.out; have := HC3.out; have := HS.out; first | (unfold wrap64; omega) | (rw [Int.tmod_eq_emod_of_nonneg (by omega)]; omega)⟩⟩
                    obtain ⟨a2, ha2, ea2⟩ : ∃ y_, Int.tmod a1 5 = y_ ∧ Aside0 (y_ = (((K3 + 4) % 5 : Nat) : Int)) := ⟨_, rfl, ⟨by have := HK2.out; have := HC2.out; have := HK3.out; have := HC3.out; have := HS.out; have := ea1.out; first | (unfold wrap64; omega) | (rw [Int.tmod_eq_emod_of_nonneg (by omega)]; omega)⟩⟩
                    obtain ⟨b1, hb1, eb1⟩ : ∃ y_, wrap64 (x + 1) = y_ ∧ Aside0 (y_ = ((K3 + 1 : Nat) : Int)) := ⟨_, rfl, ⟨by have := HK2.out; have := HC2.out; have := HK3.out; have := HC3.out; have := HS.out; have := ea1.out; have := ea2.out; first | (unfold wrap64; omega) | (rw [Int.tmod_eq_emod_of_nonneg (by omega)]; omega)⟩⟩
                    obtain ⟨b2, hb2, eb2⟩ : ∃ y_, Int.tmod b1 5 = y_ ∧ Aside0 (y_ = (((K3 + 1) % 5 : Nat) : Int)) := ⟨_, rfl, ⟨by have := HK2.out; have := HC2.out; have := HK3.out; have := HC3.out; have := HS.out; have := ea1.out; have := ea2.out; have := eb1.out; first | (unfold wrap64; omega) | (rw [Int.tmod_eq_emod_of_nonneg (by omega)]; omega)⟩⟩
                    have pa2 : (0 ≤ a2) = True := eq_true (by have := HK2.out; have := HC2.out; have := HK3.out; have := HC3.out; have := HS.out; have := ea1.out; have := ea2.out; have := eb1.out; have := eb2.out; omega)
                    have qa2_5 : (a2 < 5) = True := eq_true (by have := HK2.out; have := HC2.out; have := HK3.out; have := HC3.out; have := HS.out; have := ea1.out; have := ea2.out; have := eb1.out; have := eb2.out; omega)
                    have pb2 : (0 ≤ b2) = True := eq_true (by have := HK2.out; have := HC2.out; have := HK3.out; have := HC3.out; have := HS.out; have := ea1.out; have := ea2.out; have := eb1.out; have := eb2.out; omega)
                    have qb2_5 : (b2 < 5) = True := eq_true (by have := HK2.out; have := HC2.out; have := HK3.out; have := HC3.out; have := HS.out; have := ea1.out; have := ea2.out; have := eb1.out; have := eb2.out; omega)
                    have hc0 : wr.cell? ⟨gc, a2.toNat, none⟩ = some (.int .u64 (ga (cst s 5) a2.toNat)) := (blk_cell BKc.out _).trans (ue_get (by rw [cst_len]; have := HK2.out; have := HC2.out; have := HK3.out; have := HC3.out; have := HS.out; have := ea1.out; have := ea2.out; have := eb1.out; have := eb2.out; omega))
                    have hc1 : wr.cell? ⟨gc, b2.toNat, none⟩ = some (.int .u64 (ga (cst s 5) b2.toNat)) := (blk_cell BKc.out _).trans (ue_get (by rw [cst_len]; have := HK2.out; have := HC2.out; have := HK3.out; have := HC3.out; have := HS.out; have := ea1.out; have := ea2.out; have := eb1.out; have := eb2.out; omega))
                    have HR := rot_f (v := ga (cst s 5) b2.toNat) rok_one
                    have HRa := Aside0.mk HR
                    clear HR
                    go_wp2
                    refine start_ (n := 13) (S := fun w' => w'.cell? ⟨gc, a2.toNat, none⟩ = some (.int .u64 (ga (cst s 5) a2.toNat)) ∧ w'.cell? ⟨gc, b2.toNat, none⟩ = some (.int .u64 (ga (cst s 5) b2.toNat))) (ds := []) #[false, false, false, false, false, false, false, false, false, false, false, false, false] (by kernel_rfl) rfl rfl ⟨hc0, hc1⟩ (fun hHeld => ?_)
                    refine with_tabW impl_round.tab13 impl_round.bits13 (fun HT_ HW_ => ?_)
                    refine pI 0 (some 57) HT_.out ?_
                    refine pI 1 (some 58) HT_.out ?_
                    refine pI 2 (some 59) HT_.out ?_
                    refine pI 3 (some 60) HT_.out ?_
                    refine pI 5 (some 62) HT_.out ?_
                    refine pI 6 (some 63) HT_.out ?_
                    refine pI 7 (some 64) HT_.out ?_
                    refine pI 8 (some 65) HT_.out ?_
                    refine tI2 4 (some 61) HT_.out HW_.out hHeld ?_
                    refine tI2 9 (some 66) HT_.out HW_.out hHeld ?_
                    refine oI 10 (some 67) HT_.out (fun K hK => ?_)
                    refine goes_ Tryd.func142 (by kernel_rfl) rfl #[.int .u64 (ga (cst s 5) b2.toNat), .int .i64 (1)] (by rfl) rfl rfl (by simp only [List.map_toArray, List.map_cons, List.map_nil]; rfl) ?_
                    with_reducible refine (bits_RotateLeft64.calls _ _ _ _ HRa.out).mono ?_
                    rintro e w3_ ⟨rfl, ⟨nd, rfl⟩⟩
                    refine ⟨_, rfl, ?_⟩
                    refine hK.out _ _ ⟨(by exact hHeld.1), (by exact hHeld.2)⟩ (fun hHeld => ?_)
                    clear hK K
                    refine nO (some 67) ?_
                    refine pI 11 (some 68) HT_.out ?_
                    refine pI 12 (some 9) HT_.out ?_
                    refine done_ (done_of HT_.out (by kernel_rfl)) ?_
                    obtain ⟨m1, hm1, em1⟩ : ∃ y_, wrap64 (2 * x) = y_ ∧ Aside0 (y_ = ((2 * K3 : Nat) : Int)) := ⟨_, rfl, ⟨by have := HK2.out; have := HC2.out; have := HK3.out; have := HC3.out; have := HS.out; have := ea1.out; have := ea2.out; have := eb1.out; have := eb2.out; first | (unfold wrap64; omega) | (rw [Int.tmod_eq_emod_of_nonneg (by omega)]; omega)⟩⟩
                    obtain ⟨m2, hm2, em2⟩ : ∃ y_, wrap64 (3 * y) = y_ ∧ Aside0 (y_ = ((3 * K2 : Nat) : Int)) := ⟨_, rfl, ⟨by have := HK2.out; have := HC2.out; have := HK3.out; have := HC3.out; have := HS.out; have := ea1.out; have := ea2.out; have := eb1.out; have := eb2.out; have := em1.out; first | (unfold wrap64; omega) | (rw [Int.tmod_eq_emod_of_nonneg (by omega)]; omega)⟩⟩
                    obtain ⟨m3, hm3, em3⟩ : ∃ y_, wrap64 (m1 + m2) = y_ ∧ Aside0 (y_ = ((2 * K3 + 3 * K2 : Nat) : Int)) := ⟨_, rfl, ⟨by have := HK2.out; have := HC2.out; have := HK3.out; have := HC3.out; have := HS.out; have := ea1.out; have := ea2.out; have := eb1.out; have := eb2.out; have := em1.out; have := em2.out; first | (unfold wrap64; omega) | (rw [Int.tmod_eq_emod_of_nonneg (by omega)]; omega)⟩⟩
                    obtain ⟨m4, hm4, em4⟩ : ∃ y_, Int.tmod m3 5 = y_ ∧ Aside0 (y_ = (((2 * K3 + 3 * K2) % 5 : Nat) : Int)) := ⟨_, rfl, ⟨by have := HK2.out; have := HC2.out; have := HK3.out; have := HC3.out; have := HS.out; have := ea1.out; have := ea2.out; have := eb1.out; have := eb2.out; have := em1.out; have := em2.out; have := em3.out; first | (unfold wrap64; omega) | (rw [Int.tmod_eq_emod_of_nonneg (by omega)]; omega)⟩⟩
                    obtain ⟨m5, hm5, em5⟩ : ∃ y_, wrap64 (5 * m4) = y_ ∧ Aside0 (y_ = ((5 * ((2 * K3 + 3 * K2) % 5) : Nat) : Int)) := ⟨_, rfl, ⟨by have := HK2.out; have := HC2.out; have := HK3.out; have := HC3.out; have := HS.out; have := ea1.out; have := ea2.out; have := eb1.out; have := eb2.out; have := em1.out; have := em2.out; have := em3.out; have := em4.out; first | (unfold wrap64; omega) | (rw [Int.tmod_eq_emod_of_nonneg (by omega)]; omega)⟩⟩
                    obtain ⟨m6, hm6, em6⟩ : ∃ y_, wrap64 (y + m5) = y_ ∧ Aside0 (y_ = ((K2 + 5 * ((2 * K3 + 3 * K2) % 5) : Nat) : Int)) := ⟨_, rfl, ⟨by have := HK2.out; have := HC2.out; have := HK3.out; have := HC3.out; have := HS.out; have := ea1.out; have := ea2.out; have := eb1.out; have := eb2.out; have := em1.out; have := em2.out; have := em3.out; have := em4.out; have := em5.out; first | (unfold wrap64; omega) | (rw [Int.tmod_eq_emod_of_nonneg (by omega)]; omega)⟩⟩
                    obtain ⟨z1, hz1, ez1⟩ : ∃ y_, wrap64 (5 * y) = y_ ∧ Aside0 (y_ = ((5 * K2 : Nat) : Int)) := ⟨_, rfl, ⟨by have := HK2.out; have := HC2.out; have := HK3.out; have := HC3.out; have := HS.out; have := ea1.out; have := ea2.out; have := eb1.out; have := eb2.out; have := em1.out; have := em2.out; have := em3.out; have := em4.out; have := em5.out; have := em6.out; first | (unfold wrap64; omega) | (rw [Int.tmod_eq_emod_of_nonneg (by omega)]; omega)⟩⟩
                    obtain ⟨z2, hz2, ez2⟩ : ∃ y_, wrap64 (x + z1) = y_ ∧ Aside0 (y_ = ((K3 + 5 * K2 : Nat) : Int)) := ⟨_, rfl, ⟨by have := HK2.out; have := HC2.out; have := HK3.out; have := HC3.out; have := HS.out; have := ea1.out; have := ea2.out; have := eb1.out; have := eb2.out; have := em1.out; have := em2.out; have := em3.out; have := em4.out; have := em5.out; have := em6.out; have := ez1.out; first | (unfold wrap64; omega) | (rw [Int.tmod_eq_emod_of_nonneg (by omega)]; omega)⟩⟩
                    have pm6 : (0 ≤ m6) = True := eq_true (by have := HK2.out; have := HC2.out; have := HK3.out; have := HC3.out; have := HS.out; have := ea1.out; have := ea2.out; have := eb1.out; have := eb2.out; have := em1.out; have := em2.out; have := em3.out; have := em4.out; have := em5.out; have := em6.out; have := ez1.out; have := ez2.out; omega)
                    have qm6_25 : (m6 < 25) = True := eq_true (by have := HK2.out; have := HC2.out; have := HK3.out; have := HC3.out; have := HS.out; have := ea1.out; have := ea2.out; have := eb1.out; have := eb2.out; have := em1.out; have := em2.out; have := em3.out; have := em4.out; have := em5.out; have := em6.out; have := ez1.out; have := ez2.out; omega)
                    have pz2 : (0 ≤ z2) = True := eq_true (by have := HK2.out; have := HC2.out; have := HK3.out; have := HC3.out; have := HS.out; have := ea1.out; have := ea2.out; have := eb1.out; have := eb2.out; have := em1.out; have := em2.out; have := em3.out; have := em4.out; have := em5.out; have := em6.out; have := ez1.out; have := ez2.out; omega)
                    have qz2_25 : (z2 < 25) = True := eq_true (by have := HK2.out; have := HC2.out; have := HK3.out; have := HC3.out; have := HS.out; have := ea1.out; have := ea2.out; have := eb1.out; have := eb2.out; have := em1.out; have := em2.out; have := em3.out; have := em4.out; have := em5.out; have := em6.out; have := ez1.out; have := ez2.out; omega)
                    have hd0 : wr.cell? ⟨g, z2.toNat, none⟩ = some (.int .u64 (ga (s) z2.toNat)) := (blk_cell BKs.out _).trans (ue_get (by rw [HS.out]; have := HK2.out; have := HC2.out; have := HK3.out; have := HC3.out; have := HS.out; have := ea1.out; have := ea2.out; have := eb1.out; have := eb2.out; have := em1.out; have := em2.out; have := em3.out; have := em4.out; have := em5.out; have := em6.out; have := ez1.out; have := ez2.out; omega))
                    have hd1 : wr.cell? ⟨0, z2.toNat, none⟩ = some (.int .i64 (ga turnsL z2.toNat)) := (HB.out.cell (p := ⟨0, z2.toNat, none⟩) HT.out.s.1).trans (HT.out.t _ (by have := HK2.out; have := HC2.out; have := HK3.out; have := HC3.out; have := HS.out; have := ea1.out; have := ea2.out; have := eb1.out; have := eb2.out; have := em1.out; have := em2.out; have := em3.out; have := em4.out; have := em5.out; have := em6.out; have := ez1.out; have := ez2.out; omega))
                    have hst : wr.cell? ⟨gb, m6.toNat, none⟩ = some (.int .u64 (ga (bst s (cst s 5) (5 * K2 + K3)) m6.toNat)) := (blk_cell BKb.out _).trans (ue_get (by rw [bst_len]; have := HK2.out; have := HC2.out; have := HK3.out; have := HC3.out; have := HS.out; have := ea1.out; have := ea2.out; have := eb1.out; have := eb2.out; have := em1.out; have := em2.out; have := em3.out; have := em4.out; have := em5.out; have := em6.out; have := ez1.out; have := ez2.out; omega))
                    have hfz : wr.frozen? ⟨gb, m6.toNat, none⟩ = false := blk_frozen BKb.out _
                    have hz25 : z2.toNat < 25 := by have := HK2.out; have := HC2.out; have := HK3.out; have := HC3.out; have := HS.out; have := ea1.out; have := ea2.out; have := eb1.out; have := eb2.out; have := em1.out; have := em2.out; have := em3.out; have := em4.out; have := em5.out; have := em6.out; have := ez1.out; have := ez2.out; omega
                    have HR := rot_f (v := Go.bits .xor .u64 (ga s z2.toNat) (Go.bits .xor .u64 (ga (cst s 5) a2.toNat) (rl (ga (cst s 5) b2.toNat) 1))) (rok_turns ⟨z2.toNat, hz25⟩)
                    have HRb := Aside0.mk (show bits_RotateLeft64.f (Go.bits .xor .u64 (ga s z2.toNat) (Go.bits .xor .u64 (ga (cst s 5) a2.toNat) (rl (ga (cst s 5) b2.toNat) 1))) (ga turnsL z2.toNat) = some (rl (Go.bits .xor .u64 (ga s z2.toNat) (Go.bits .xor .u64 (ga (cst s 5) a2.toNat) (rl (ga (cst s 5) b2.toNat) 1))) (ga turnsL z2.toNat)) from HR)
                    clear HR hz25
                    go_wp2
                    refine start_ (n := 28) (S := fun w' => w'.cell? ⟨g, z2.toNat, none⟩ = some (.int .u64 (ga (s) z2.toNat)) ∧ w'.cell? ⟨0, z2.toNat, none⟩ = some (.int .i64 (ga turnsL z2.toNat))) (ds := [27]) #[false, false, false, false, false, false, false, false, false, false, false, false, false, false, false, false, false, false, false, false, false, false, false, false, false, false, false, false] (by kernel_rfl) rfl rfl ⟨(by exact hd0), (by exact hd1)⟩ (fun hHeld => ?_)
                    refine with_tabW impl_round.tab14 impl_round.bits14 (fun HT_ HW_ => ?_)
                    refine pI 0 (some 69) HT_.out ?_
                    refine pI 1 (some 70) HT_.out ?_
                    refine pI 2 (some 71) HT_.out ?_
                    refine pI 3 (some 72) HT_.out ?_
                    refine pI 4 (some 73) HT_.out ?_
                    refine pI 5 (some 74) HT_.out ?_
                    refine pI 6 (some 75) HT_.out ?_
                    refine pI 7 (some 76) HT_.out ?_
                    refine pI 8 (some 77) HT_.out ?_
                    refine pI 9 (some 78) HT_.out ?_
                    refine pI 10 (some 79) HT_.out ?_
                    refine pI 11 (some 80) HT_.out ?_
                    refine pI 12 (some 81) HT_.out ?_
                    refine pI 13 (some 82) HT_.out ?_
                    refine pI 14 (some 83) HT_.out ?_
                    refine pI 15 (some 84) HT_.out ?_
                    refine pI 17 (some 86) HT_.out ?_
                    refine pI 19 (some 88) HT_.out ?_
                    refine pI 20 (some 89) HT_.out ?_
                    refine pI 21 (some 90) HT_.out ?_
                    refine pI 22 (some 91) HT_.out ?_
                    refine pI 23 (some 92) HT_.out ?_
                    refine tI2 16 (some 85) HT_.out HW_.out hHeld ?_
                    refine pI 18 (some 87) HT_.out ?_
                    refine tI2 24 (some 93) HT_.out HW_.out hHeld ?_
                    refine oI 25 (some 94) HT_.out (fun K hK => ?_)
                    refine goes_ Tryd.func142 (by kernel_rfl) rfl #[.int .u64 (Go.bits .xor .u64 (ga s z2.toNat) (Go.bits .xor .u64 (ga (cst s 5) a2.toNat) (rl (ga (cst s 5) b2.toNat) 1))), .int .i64 (ga turnsL z2.toNat)] (by rfl) rfl rfl (by simp only [List.map_toArray, List.map_cons, List.map_nil]; rfl) ?_
                    with_reducible refine (bits_RotateLeft64.calls _ _ _ _ HRb.out).mono ?_
                    rintro e w3_ ⟨rfl, ⟨nd, rfl⟩⟩
                    refine ⟨_, rfl, ?_⟩
                    refine hK.out _ _ ⟨(by exact hHeld.1), (by exact hHeld.2)⟩ (fun hHeld => ?_)
                    clear hK K
                    refine nO (some 94) ?_
                    refine pI 26 (some 95) HT_.out ?_
                    refine last_ (i := 27) (N := none) #[true, true, true, true, true, true, true, true, true, true, true, true, true, true, true, true, true, true, true, true, true, true, true, true, true, true, true, true] rfl rfl (one_of HT_.out (by kernel_rfl)) (by decide) (fun K hK => ?_)
                    refine skip_ (w1 := ?_) (by rfl) rfl ?_ ?_
                    rotate_left
                    · go_simp
                      rfl
                    refine hK.out _ _ ?_
                    clear hK K
                    refine done_ (done_of HT_.out (by kernel_rfl)) ?_
                    go_wp2
                    go_roundg k3
                    case measure => omega
                    case rel => exact ⟨K3 + 1, _, rfl, ⟨by have := HK2.out; have := HC2.out; have := HK3.out; have := HC3.out; have := HS.out; have := ea1.out; have := ea2.out; have := eb1.out; have := eb2.out; have := em1.out; have := em2.out; have := em3.out; have := em4.out; have := em5.out; have := em6.out; have := ez1.out; have := ez2.out; first | omega | (unfold wrap64; omega), by have := HK2.out; have := HC2.out; have := HK3.out; have := HC3.out; have := HS.out; have := ea1.out; have := ea2.out; have := eb1.out; have := eb2.out; have := em1.out; have := em2.out; have := em3.out; have := em4.out; have := em5.out; have := em6.out; have := ez1.out; have := ez2.out; omega, by have := HK2.out; have := HC2.out; have := HK3.out; have := HC3.out; have := HS.out; have := ea1.out; have := ea2.out; have := eb1.out; have := eb2.out; have := em1.out; have := em2.out; have := em3.out; have := em4.out; have := em5.out; have := em6.out; have := ez1.out; have := ez2.out; omega⟩, ⟨by (with_reducible repeat (first | refine blk_drewN ?_ _ | refine blk_drew ?_)); refine blk_far ?_ (p := ⟨gb, _, none⟩) NEcb.out _; (with_reducible repeat (first | refine blk_drewN ?_ _ | refine blk_drew ?_)); exact BKc.out⟩, ⟨by (with_reducible repeat (first | refine blk_drewN ?_ _ | refine blk_drew ?_)); refine blk_far ?_ (p := ⟨gb, _, none⟩) NEsb.out _; (with_reducible repeat (first | refine blk_drewN ?_ _ | refine blk_drew ?_)); exact BKs.out⟩, ⟨by (with_reducible repeat (first | refine blk_drewN ?_ _ | refine blk_drew ?_)); refine blk_put (cs := ue (bst s (cst s 5) (5 * K2 + K3))) (by (with_reducible repeat (first | refine blk_drewN ?_ _ | refine blk_drew ?_)); exact BKb.out) m6.toNat _ ?_; rw [ue_set, bst_succ s _ (by have := HK2.out; have := HC2.out; have := HK3.out; have := HC3.out; have := HS.out; have := ea1.out; have := ea2.out; have := eb1.out; have := eb2.out; have := em1.out; have := em2.out; have := em3.out; have := em4.out; have := em5.out; have := em6.out; have := ez1.out; have := ez2.out; omega)]; simp only [bat, dd]; rw [show m6.toNat = K2 + 5 * ((2 * K3 + 3 * K2) % 5) by have := HK2.out; have := HC2.out; have := HK3.out; have := HC3.out; have := HS.out; have := ea1.out; have := ea2.out; have := eb1.out; have := eb2.out; have := em1.out; have := em2.out; have := em3.out; have := em4.out; have := em5.out; have := em6.out; have := ez1.out; have := ez2.out; omega, show z2.toNat = K3 + 5 * K2 by have := HK2.out; have := HC2.out; have := HK3.out; have := HC3.out; have := HS.out; have := ea1.out; have := ea2.out; have := eb1.out; have := eb2.out; have := em1.out; have := em2.out; have := em3.out; have := em4.out; have := em5.out; have := em6.out; have := ez1.out; have := ez2.out; omega, show a2.toNat = (K3 + 4) % 5 by have := HK2.out; have := HC2.out; have := HK3.out; have := HC3.out; have := HS.out; have := ea1.out; have := ea2.out; have := eb1.out; have := eb2.out; have := em1.out; have := em2.out; have := em3.out; have := em4.out; have := em5.out; have := em6.out; have := ez1.out; have := ez2.out; omega, show b2.toNat = (K3 + 1) % 5 by have := HK2.out; have := HC2.out; have := HK3.out; have := HC3.out; have := HS.out; have := ea1.out; have := ea2.out; have := eb1.out; have := eb2.out; have := em1.out; have := em2.out; have := em3.out; have := em4.out; have := em5.out; have := em6.out; have := ez1.out; have := ez2.out; omega]⟩, ⟨(by repeat (first | exact HB.out | apply Below.drew | apply pw_below_drewN | refine Below.setCell ?_ GEs.out _ | refine Below.setCell ?_ GEc.out _ | refine Below.setCell ?_ GEb.out _))⟩⟩
                  · have c0 : decide (x < 5) = false := decide_eq_false (by have := HK3.out; omega)
                    obtain rfl : K3 = 5 := by have := HK3.out; omega
                    clear c HK3
                    go_wp2
                    go_roundg k2
                    case measure => omega
                    case rel => exact ⟨K2 + 1, _, rfl, ⟨by have := HK2.out; have := HC2.out; first | omega | (unfold wrap64; omega), by have := HK2.out; have := HC2.out; omega, by have := HK2.out; have := HC2.out; omega⟩, ⟨by (with_reducible repeat (first | refine blk_drewN ?_ _ | refine blk_drew ?_)); exact BKc.out⟩, ⟨by (with_reducible repeat (first | refine blk_drewN ?_ _ | refine blk_drew ?_)); exact BKs.out⟩, ⟨by rw [show 5 * (K2 + 1) = 5 * K2 + 5 by omega]; (with_reducible repeat (first | refine blk_drewN ?_ _ | refine blk_drew ?_)); exact BKb.out⟩, ⟨(by repeat (first | exact HB.out | apply Below.drew | apply pw_below_drewN | refine Below.setCell ?_ GEs.out _ | refine Below.setCell ?_ GEc.out _ | refine Below.setCell ?_ GEb.out _))⟩⟩
            · have c0 : decide (y < 5) = false := decide_eq_false (by have := HK2.out; omega)
              obtain rfl : K2 = 5 := by have := HK2.out; omega
              clear c HK2
              go_wp2
              go_loopg [98] 6 (fun kq v98 w' => ∃ (k : Nat) (x : Int), v98 = .int .i64 x ∧ Aside0 (x = (k : Int) ∧ k + kq = 6 ∧ k ≤ 5) ∧ Aside0 (w'.heap[g]? = some (.cells (ue (sst s (bst s (cst s 5) 25) (5 * k))) 97 (0, 0))) ∧ Aside0 (w'.heap[gb]? = some (.cells (ue (bst s (cst s 5) 25)) 97 (0, 0))) ∧ Aside0 (Below w0.heap.size w0 w'))
              case atStart => exact ⟨0, 0, rfl, ⟨rfl, rfl, by decide⟩, ⟨by (with_reducible repeat (first | refine blk_drewN ?_ _ | refine blk_drew ?_)); exact BKs.out⟩, ⟨by (with_reducible repeat (first | refine blk_drewN ?_ _ | refine blk_drew ?_)); exact BKb.out⟩, ⟨(by repeat (first | exact HB.out | apply Below.drew | apply pw_below_drewN | refine Below.setCell ?_ GEs.out _ | refine Below.setCell ?_ GEc.out _ | refine Below.setCell ?_ GEb.out _))⟩⟩
              case round =>
                clear BKc BKs BKb HB
                clear c0
                obtain ⟨K2, y, rfl, HK2, BKs, BKb, HB⟩ := hrel
                cases gk with
                | zero => exact absurd HK2.out (by omega)
                | succ k2 =>
                  by_cases c : K2 < 5
                  · have c0 : decide (y < 5) = true := decide_eq_true (by have := HK2.out; omega)
                    have HC2 := Aside0.mk c
                    clear c
                    go_wp2
                    go_loopg [101] 6 (fun kq v101 w' => ∃ (k : Nat) (x : Int), v101 = .int .i64 x ∧ Aside0 (x = (k : Int) ∧ k + kq = 6 ∧ k ≤ 5) ∧ Aside0 (w'.heap[g]? = some (.cells (ue (sst s (bst s (cst s 5) 25) (5 * K2 + k))) 97 (0, 0))) ∧ Aside0 (w'.heap[gb]? = some (.cells (ue (bst s (cst s 5) 25)) 97 (0, 0))) ∧ Aside0 (Below w0.heap.size w0 w'))
                    case atStart => exact ⟨0, 0, rfl, ⟨rfl, rfl, by decide⟩, ⟨by (with_reducible repeat (first | refine blk_drewN ?_ _ | refine blk_drew ?_)); exact BKs.out⟩, ⟨by (with_reducible repeat (first | refine blk_drewN ?_ _ | refine blk_drew ?_)); exact BKb.out⟩, ⟨(by repeat (first | exact HB.out | apply Below.drew | apply pw_below_drewN | refine Below.setCell ?_ GEs.out _ | refine Below.setCell ?_ GEc.out _ | refine Below.setCell ?_ GEb.out _))⟩⟩
                    case round =>
                      clear BKs BKb HB
                      clear c0
                      obtain ⟨K3, x, rfl, HK3, BKs, BKb, HB⟩ := hrel
                      cases gk with
                      | zero => exact absurd HK3.out (by omega)
                      | succ k3 =>
                        by_cases c : K3 < 5
                        · have c0 : decide (x < 5) = true := decide_eq_true (by have := HK3.out; omega)
                          have HC3 := Aside0.mk c
                          clear c
                          obtain ⟨z1, hz1, ez1⟩ : ∃ y_, wrap64 (5 * y) = y_ ∧ Aside0 (y_ = ((5 * K2 : Nat) : Int)) := ⟨_, rfl, ⟨by have := HK2.out; have := HC2.out; have := HK3.out; have := HC3.out; have := HS.out; first | (unfold wrap64; omega) | (rw [Int.tmod_eq_emod_of_nonneg (by omega)]; omega)⟩⟩
                          obtain ⟨z2, hz2, ez2⟩ : ∃ y_, wrap64 (x + z1) = y_ ∧ Aside0 (y_ = ((K3 + 5 * K2 : Nat) : Int)) := ⟨_, rfl, ⟨by have := HK2.out; have := HC2.out; have := HK3.out; have := HC3.out; have := HS.out; have := ez1.out; first | (unfold wrap64; omega) | (rw [Int.tmod_eq_emod_of_nonneg (by omega)]; omega)⟩⟩
                          obtain ⟨c1, hc1, ec1⟩ : ∃ y_, wrap64 (x + 1) = y_ ∧ Aside0 (y_ = ((K3 + 1 : Nat) : Int)) := ⟨_, rfl, ⟨by have := HK2.out; have := HC2.out; have := HK3.out; have := HC3.out; have := HS.out; have := ez1.out; have := ez2.out; first | (unfold wrap64; omega) | (rw [Int.tmod_eq_emod_of_nonneg (by omega)]; omega)⟩⟩
                          obtain ⟨c2, hc2, ec2⟩ : ∃ y_, Int.tmod c1 5 = y_ ∧ Aside0 (y_ = (((K3 + 1) % 5 : Nat) : Int)) := ⟨_, rfl, ⟨by have := HK2.out; have := HC2.out; have := HK3.out; have := HC3.out; have := HS.out; have := ez1.out; have := ez2.out; have := ec1.out; first | (unfold wrap64; omega) | (rw [Int.tmod_eq_emod_of_nonneg (by omega)]; omega)⟩⟩
                          obtain ⟨c3, hc3, ec3⟩ : ∃ y_, wrap64 (c2 + z1) = y_ ∧ Aside0 (y_ = (((K3 + 1) % 5 + 5 * K2 : Nat) : Int)) := ⟨_, rfl, ⟨by have := HK2.out; have := HC2.out; have := HK3.out; have := HC3.out; have := HS.out; have := ez1.out; have := ez2.out; have := ec1.out; have := ec2.out; first | (unfold wrap64; omega) | (rw [Int.tmod_eq_emod_of_nonneg (by omega)]; omega)⟩⟩
                          obtain ⟨d1, hd1, ed1⟩ : ∃ y_, wrap64 (x + 2) = y_ ∧ Aside0 (y_ = ((K3 + 2 : Nat) : Int)) := ⟨_, rfl, ⟨by have := HK2.out; have := HC2.out; have := HK3.out; have := HC3.out; have := HS.out; have := ez1.out; have := ez2.out; have := ec1.out; have := ec2.out; have := ec3.out; first | (unfold wrap64; omega) | (rw [Int.tmod_eq_emod_of_nonneg (by omega)]; omega)⟩⟩
                          obtain ⟨d2, hd2, ed2⟩ : ∃ y_, Int.tmod d1 5 = y_ ∧ Aside0 (y_ = (((K3 + 2) % 5 : Nat) : Int)) := ⟨_, rfl, ⟨by have := HK2.out; have := HC2.out; have := HK3.out; have := HC3.out; have := HS.out; have := ez1.out; have := ez2.out; have := ec1.out; have := ec2.out; have := ec3.out; have := ed1.out; first | (unfold wrap64; omega) | (rw [Int.tmod_eq_emod_of_nonneg (by omega)]; omega)⟩⟩
                          obtain ⟨d3, hd3, ed3⟩ : ∃ y_, wrap64 (d2 + z1) = y_ ∧ Aside0 (y_ = (((K3 + 2) % 5 + 5 * K2 : Nat) : Int)) := ⟨_, rfl, ⟨by have := HK2.out; have := HC2.out; have := HK3.out; have := HC3.out; have := HS.out; have := ez1.out; have := ez2.out; have := ec1.out; have := ec2.out; have := ec3.out; have := ed1.out; have := ed2.out; first | (unfold wrap64; omega) | (rw [Int.tmod_eq_emod_of_nonneg (by omega)]; omega)⟩⟩
                          have pz2 : (0 ≤ z2) = True := eq_true (by have := HK2.out; have := HC2.out; have := HK3.out; have := HC3.out; have := HS.out; have := ez1.out; have := ez2.out; have := ec1.out; have := ec2.out; have := ec3.out; have := ed1.out; have := ed2.out; have := ed3.out; omega)
                          have qz2_25 : (z2 < 25) = True := eq_true (by have := HK2.out; have := HC2.out; have := HK3.out; have := HC3.out; have := HS.out; have := ez1.out; have := ez2.out; have := ec1.out; have := ec2.out; have := ec3.out; have := ed1.out; have := ed2.out; have := ed3.out; omega)
                          have pc3 : (0 ≤ c3) = True := eq_true (by have := HK2.out; have := HC2.out; have := HK3.out; have := HC3.out; have := HS.out; have := ez1.out; have := ez2.out; have := ec1.out; have := ec2.out; have := ec3.out; have := ed1.out; have := ed2.out; have := ed3.out; omega)
                          have qc3_25 : (c3 < 25) = True := eq_true (by have := HK2.out; have := HC2.out; have := HK3.out; have := HC3.out; have := HS.out; have := ez1.out; have := ez2.out; have := ec1.out; have := ec2.out; have := ec3.out; have := ed1.out; have := ed2.out; have := ed3.out; omega)
                          have pd3 : (0 ≤ d3) = True := eq_true (by have := HK2.out; have := HC2.out; have := HK3.out; have := HC3.out; have := HS.out; have := ez1.out; have := ez2.out; have := ec1.out; have := ec2.out; have := ec3.out; have := ed1.out; have := ed2.out; have := ed3.out; omega)
                          have qd3_25 : (d3 < 25) = True := eq_true (by have := HK2.out; have := HC2.out; have := HK3.out; have := HC3.out; have := HS.out; have := ez1.out; have := ez2.out; have := ec1.out; have := ec2.out; have := ec3.out; have := ed1.out; have := ed2.out; have := ed3.out; omega)
                          have hc0 : wr.cell? ⟨gb, z2.toNat, none⟩ = some (.int .u64 (ga (bst s (cst s 5) 25) z2.toNat)) := (blk_cell BKb.out _).trans (ue_get (by rw [bst_len]; have := HK2.out; have := HC2.out; have := HK3.out; have := HC3.out; have := HS.out; have := ez1.out; have := ez2.out; have := ec1.out; have := ec2.out; have := ec3.out; have := ed1.out; have := ed2.out; have := ed3.out; omega))
                          have hc1 : wr.cell? ⟨gb, c3.toNat, none⟩ = some (.int .u64 (ga (bst s (cst s 5) 25) c3.toNat)) := (blk_cell BKb.out _).trans (ue_get (by rw [bst_len]; have := HK2.out; have := HC2.out; have := HK3.out; have := HC3.out; have := HS.out; have := ez1.out; have := ez2.out; have := ec1.out; have := ec2.out; have := ec3.out; have := ed1.out; have := ed2.out; have := ed3.out; omega))
                          have hc2 : wr.cell? ⟨gb, d3.toNat, none⟩ = some (.int .u64 (ga (bst s (cst s 5) 25) d3.toNat)) := (blk_cell BKb.out _).trans (ue_get (by rw [bst_len]; have := HK2.out; have := HC2.out; have := HK3.out; have := HC3.out; have := HS.out; have := ez1.out; have := ez2.out; have := ec1.out; have := ec2.out; have := ec3.out; have := ed1.out; have := ed2.out; have := ed3.out; omega))
                          have hst : wr.cell? ⟨g, z2.toNat, none⟩ = some (.int .u64 (ga (sst s (bst s (cst s 5) 25) (5 * K2 + K3)) z2.toNat)) := (blk_cell BKs.out _).trans (ue_get (by rw [sst_len]; have := HK2.out; have := HC2.out; have := HK3.out; have := HC3.out; have := HS.out; have := ez1.out; have := ez2.out; have := ec1.out; have := ec2.out; have := ec3.out; have := ed1.out; have := ed2.out; have := ed3.out; omega))
                          have hfz : wr.frozen? ⟨g, z2.toNat, none⟩ = false := blk_frozen BKs.out _
                          go_wp2
                          refine start_ (n := 33) (S := fun w' => w'.cell? ⟨gb, z2.toNat, none⟩ = some (.int .u64 (ga (bst s (cst s 5) 25) z2.toNat)) ∧ w'.cell? ⟨gb, c3.toNat, none⟩ = some (.int .u64 (ga (bst s (cst s 5) 25) c3.toNat)) ∧ w'.cell? ⟨gb, d3.toNat, none⟩ = some (.int .u64 (ga (bst s (cst s 5) 25) d3.toNat))) (ds := [32]) #[false, false, false, false, false, false, false, false, false, false, false, false, false, false, false, false, false, false, false, false, false, false, false, false, false, false, false, false, false, false, false, false, false] (by kernel_rfl) rfl rfl ⟨hc0, hc1, hc2⟩ (fun hHeld => ?_)
                          refine with_tabW impl_round.tab23 impl_round.bits23 (fun HT_ HW_ => ?_)
                          refine pI 0 (some 104) HT_.out ?_
                          refine pI 1 (some 105) HT_.out ?_
                          refine pI 2 (some 106) HT_.out ?_
                          refine pI 3 (some 107) HT_.out ?_
                          refine pI 4 (some 108) HT_.out ?_
                          refine pI 5 (some 109) HT_.out ?_
                          refine pI 6 (some 110) HT_.out ?_
                          refine pI 7 (some 111) HT_.out ?_
                          refine pI 8 (some 112) HT_.out ?_
                          refine pI 9 (some 113) HT_.out ?_
                          refine pI 11 (some 115) HT_.out ?_
                          refine pI 12 (some 116) HT_.out ?_
                          refine pI 13 (some 117) HT_.out ?_
                          refine pI 14 (some 118) HT_.out ?_
                          refine pI 15 (some 119) HT_.out ?_
                          refine pI 16 (some 120) HT_.out ?_
                          refine pI 17 (some 121) HT_.out ?_
                          refine pI 20 (some 124) HT_.out ?_
                          refine pI 21 (some 125) HT_.out ?_
                          refine pI 22 (some 126) HT_.out ?_
                          refine pI 23 (some 127) HT_.out ?_
                          refine pI 24 (some 128) HT_.out ?_
                          refine pI 25 (some 129) HT_.out ?_
                          refine pI 26 (some 130) HT_.out ?_
                          refine pI 30 (some 134) HT_.out ?_
                          refine tI3 10 (some 114) HT_.out HW_.out hHeld ?_
                          refine tI3 18 (some 122) HT_.out HW_.out hHeld ?_
                          refine pI 19 (some 123) HT_.out ?_
                          refine tI3 27 (some 131) HT_.out HW_.out hHeld ?_
                          refine pI 28 (some 132) HT_.out ?_
                          refine pI 29 (some 133) HT_.out ?_
                          refine pI 31 (some 135) HT_.out ?_
                          refine last_ (i := 32) (N := none) #[true, true, true, true, true, true, true, true, true, true, true, true, true, true, true, true, true, true, true, true, true, true, true, true, true, true, true, true, true, true, true, true, true] rfl rfl (one_of HT_.out (by kernel_rfl)) (by decide) (fun K hK => ?_)
                          refine skip_ (w1 := ?_) (by rfl) rfl ?_ ?_
                          rotate_left
                          · go_simp
                            rfl
                          refine hK.out _ _ ?_
                          clear hK K
                          refine done_ (done_of HT_.out (by kernel_rfl)) ?_
                          go_wp2
                          go_roundg k3
                          case measure => omega
                          case rel => exact ⟨K3 + 1, _, rfl, ⟨by have := HK2.out; have := HC2.out; have := HK3.out; have := HC3.out; have := HS.out; have := ez1.out; have := ez2.out; have := ec1.out; have := ec2.out; have := ec3.out; have := ed1.out; have := ed2.out; have := ed3.out; first | omega | (unfold wrap64; omega), by have := HK2.out; have := HC2.out; have := HK3.out; have := HC3.out; have := HS.out; have := ez1.out; have := ez2.out; have := ec1.out; have := ec2.out; have := ec3.out; have := ed1.out; have := ed2.out; have := ed3.out; omega, by have := HK2.out; have := HC2.out; have := HK3.out; have := HC3.out; have := HS.out; have := ez1.out; have := ez2.out; have := ec1.out; have := ec2.out; have := ec3.out; have := ed1.out; have := ed2.out; have := ed3.out; omega⟩, ⟨by (with_reducible repeat (first | refine blk_drewN ?_ _ | refine blk_drew ?_)); refine blk_put (cs := ue (sst s (bst s (cst s 5) 25) (5 * K2 + K3))) (by (with_reducible repeat (first | refine blk_drewN ?_ _ | refine blk_drew ?_)); exact BKs.out) z2.toNat _ ?_; rw [ue_set, sst_succ s _ (by have := HK2.out; have := HC2.out; have := HK3.out; have := HC3.out; have := HS.out; have := ez1.out; have := ez2.out; have := ec1.out; have := ec2.out; have := ec3.out; have := ed1.out; have := ed2.out; have := ed3.out; omega)]; simp only [chi, u64not]; rw [show z2.toNat = K3 + 5 * K2 by have := HK2.out; have := HC2.out; have := HK3.out; have := HC3.out; have := HS.out; have := ez1.out; have := ez2.out; have := ec1.out; have := ec2.out; have := ec3.out; have := ed1.out; have := ed2.out; have := ed3.out; omega, show c3.toNat = (K3 + 1) % 5 + 5 * K2 by have := HK2.out; have := HC2.out; have := HK3.out; have := HC3.out; have := HS.out; have := ez1.out; have := ez2.out; have := ec1.out; have := ec2.out; have := ec3.out; have := ed1.out; have := ed2.out; have := ed3.out; omega, show d3.toNat = (K3 + 2) % 5 + 5 * K2 by have := HK2.out; have := HC2.out; have := HK3.out; have := HC3.out; have := HS.out; have := ez1.out; have := ez2.out; have := ec1.out; have := ec2.out; have := ec3.out; have := ed1.out; have := ed2.out; have := ed3.out; omega]⟩, ⟨by (with_reducible repeat (first | refine blk_drewN ?_ _ | refine blk_drew ?_)); refine blk_far ?_ (p := ⟨g, _, none⟩) NEsb.out.symm _; (with_reducible repeat (first | refine blk_drewN ?_ _ | refine blk_drew ?_)); exact BKb.out⟩, ⟨(by repeat (first | exact HB.out | apply Below.drew | apply pw_below_drewN | refine Below.setCell ?_ GEs.out _ | refine Below.setCell ?_ GEc.out _ | refine Below.setCell ?_ GEb.out _))⟩⟩
                        · have c0 : decide (x < 5) = false := decide_eq_false (by have := HK3.out; omega)
                          obtain rfl : K3 = 5 := by have := HK3.out; omega
                          clear c HK3
                          go_wp2
                          go_roundg k2
                          case measure => omega
                          case rel => exact ⟨K2 + 1, _, rfl, ⟨by have := HK2.out; have := HC2.out; first | omega | (unfold wrap64; omega), by have := HK2.out; have := HC2.out; omega, by have := HK2.out; have := HC2.out; omega⟩, ⟨by rw [show 5 * (K2 + 1) = 5 * K2 + 5 by omega]; (with_reducible repeat (first | refine blk_drewN ?_ _ | refine blk_drew ?_)); exact BKs.out⟩, ⟨by (with_reducible repeat (first | refine blk_drewN ?_ _ | refine blk_drew ?_)); exact BKb.out⟩, ⟨(by repeat (first | exact HB.out | apply Below.drew | apply pw_below_drewN | refine Below.setCell ?_ GEs.out _ | refine Below.setCell ?_ GEc.out _ | refine Below.setCell ?_ GEb.out _))⟩⟩
                  · have c0 : decide (y < 5) = false := decide_eq_false (by have := HK2.out; omega)
                    obtain rfl : K2 = 5 := by have := HK2.out; omega
                    clear c HK2
                    have pn : (0 ≤ n) = True := eq_true HN.out.1
                    have qn : (n < 24) = True := eq_true HN.out.2
                    have hc0 : wr.cell? ⟨g, 0, none⟩ = some (.int .u64 (ga (sst s (bst s (cst s 5) 25) 25) 0)) := (blk_cell BKs.out _).trans (ue_get (by rw [sst_len, HS.out]; decide))
                    have hc1 : wr.cell? ⟨1, n.toNat, none⟩ = some (.int .u64 (ga rcL n.toNat)) := (HB.out.cell (p := ⟨1, n.toNat, none⟩) HT.out.s.2).trans (HT.out.r _ (by have := HN.out; omega))
                    have hfz : wr.frozen? ⟨g, 0, none⟩ = false := blk_frozen BKs.out _
                    go_wp2
                    refine start_ (n := 11) (S := fun w' => w'.cell? ⟨g, 0, none⟩ = some (.int .u64 (ga (sst s (bst s (cst s 5) 25) 25) 0)) ∧ w'.cell? ⟨1, n.toNat, none⟩ = some (.int .u64 (ga rcL n.toNat))) (ds := [10]) #[false, false, false, false, false, false, false, false, false, false, false] (by kernel_rfl) rfl rfl ⟨hc0, hc1⟩ (fun hHeld => ?_)
                    refine with_tabW impl_round.tab26 impl_round.bits26 (fun HT_ HW_ => ?_)
                    refine pI 0 (some 138) HT_.out ?_
                    refine pI 1 (some 139) HT_.out ?_
                    refine pI 2 (some 140) HT_.out ?_
                    refine pI 4 (some 142) HT_.out ?_
                    refine pI 5 (some 143) HT_.out ?_
                    refine pI 8 (some 146) HT_.out ?_
                    refine tI2 3 (some 141) HT_.out HW_.out hHeld ?_
                    refine tI2 6 (some 144) HT_.out HW_.out hHeld ?_
                    refine pI 7 (some 145) HT_.out ?_
                    refine pI 9 (some 147) HT_.out ?_
                    refine last_ (i := 10) (N := none) #[true, true, true, true, true, true, true, true, true, true, true] rfl rfl (one_of HT_.out (by kernel_rfl)) (by decide) (fun K hK => ?_)
                    refine skip_ (w1 := ?_) (by rfl) rfl ?_ ?_
                    rotate_left
                    · go_simp
                      rfl
                    refine hK.out _ _ ?_
                    clear hK K
                    refine done_ (done_of HT_.out (by kernel_rfl)) ?_
                    go_wp2
                    go_end0
                    exact ⟨rfl, by (with_reducible repeat (first | refine blk_drewN ?_ _ | refine blk_drew ?_)); refine blk_put (cs := ue (sst s (bst s (cst s 5) 25) 25)) (by (with_reducible repeat (first | refine blk_drewN ?_ _ | refine blk_drew ?_)); exact BKs.out) 0 _ ?_; rw [ue_set]; rfl, (by repeat (first | exact HB.out | apply Below.drew | apply pw_below_drewN | refine Below.setCell ?_ GEs.out _ | refine Below.setCell ?_ GEc.out _ | refine Below.setCell ?_ GEb.out _))⟩
end Go.Proofs.YtkdmplfldfagnaaDoor.Kp
end
section
/- What is proved here: steps of Keccak as the program and the reference write it: what each function answers. No conditions but those that each theorem names. -/
namespace Go.Proofs.YtkdmplfldfagnaaDoor.Kp
open Go.RowKit Go.Proofs.YtkdmplfldfagnaaDoorW.PrintWords Go.Proofs.YtkdmplfldfagnaaDoorW.PrintLast Go.Proofs.YtkdmplfldfagnaaDoorW.PrintMore
set_option linter.unusedVariables false
set_option linter.unusedSimpArgs false
def rit (s : List Int) : Nat → List Int
  | 0 => s
  | k + 1 => roundI (rit s k) k
theorem rit_len (s : List Int) (k : Nat) : (rit s k).length = s.length := by
  induction k with
  | zero => rfl
  | succ k ih => simp [rit, roundI_len, ih]
set_option maxHeartbeats 4000000 in
set_option maxRecDepth 100000 in
theorem impl_rounds.calls (g : Nat) (s : List Int) (hs : s.length = 25) (w0 w : World) (hT : Tab w0) (hB : Below w0.heap.size w0 w) (hg : w0.heap.size ≤ g) (hA : w.heap[g]? = some (.cells (ue s) 97 (0, 0))) :
    Calls Tryd.prog 92 #[.pointer (some ⟨g, 0, none⟩)] w fun e w' => e = .returned (.tuple #[]) ∧ w'.heap[g]? = some (.cells (ue (rit s 24)) 97 (0, 0)) ∧ Below w0.heap.size w0 w' := by
  have HT := Aside0.mk hT
  have HB := Aside0.mk hB
  have BKs := Aside0.mk hA
  have GEs := Aside0.mk hg
  have HS := Aside0.mk hs
  clear hT hB hA hg hs
  go_enter Tryd.func92, Tryd.ntmps92
  go_wp2
  go_loopg [3] 25 (fun kq v3 w' => ∃ (k : Nat) (x : Int), v3 = .int .i64 x ∧ Aside0 (x = (k : Int) ∧ k + kq = 25 ∧ k ≤ 24) ∧ Aside0 (w'.heap[g]? = some (.cells (ue (rit s k)) 97 (0, 0))) ∧ Aside0 (Below w0.heap.size w0 w'))
  case atStart => exact ⟨0, 0, rfl, ⟨rfl, rfl, by decide⟩, ⟨by (with_reducible repeat (first | refine blk_drewN ?_ _ | refine blk_drew ?_)); exact BKs.out⟩, ⟨(by repeat (first | exact HB.out | apply Below.drew | apply pw_below_drewN | refine Below.setCell ?_ GEs.out _))⟩⟩
  case round =>
    clear BKs HB
    obtain ⟨K1, x, rfl, HK1, BKs, HB⟩ := hrel
    cases gk with
    | zero => exact absurd HK1.out (by omega)
    | succ k1 =>
      by_cases c : K1 < 24
      · have c0 : decide (x < 24) = true := decide_eq_true (by have := HK1.out; omega)
        have HC1 := Aside0.mk c
        clear c
        go_wp2_with (first | (go_at_call 122; (with_reducible refine (impl_round.calls g (rit s K1) (by rw [rit_len]; exact HS.out) x (by have := HK1.out; omega) (by have := HK1.out; have := HC1.out; omega) w0 _ HT.out ?side1 GEs.out ?side2).mono ?_); (case side1 => exact (by repeat (first | exact HB.out | apply Below.drew | apply pw_below_drewN | refine Below.setCell ?_ GEs.out _))); (case side2 => ((with_reducible repeat (first | refine blk_drewN ?_ _ | refine blk_drew ?_)); exact BKs.out)); rintro e w1_ ⟨rfl, hk, hb⟩; have BKs := Aside0.mk hk; have HB := Aside0.mk hb; clear hk hb))
        go_roundg k1
        case measure => omega
        case rel => exact ⟨K1 + 1, _, rfl, ⟨by have := HK1.out; unfold wrap64; omega, by have := HK1.out; omega, by have := HK1.out; have := HC1.out; omega⟩, ⟨by have h_ := BKs.out; rw [show x.toNat = K1 by have := HK1.out; omega] at h_; (with_reducible repeat (first | refine blk_drewN ?_ _ | refine blk_drew ?_)); exact h_⟩, ⟨(by repeat (first | exact HB.out | apply Below.drew | apply pw_below_drewN | refine Below.setCell ?_ GEs.out _))⟩⟩
      · have c0 : decide (x < 24) = false := decide_eq_false (by have := HK1.out; omega)
        obtain rfl : K1 = 24 := by have := HK1.out; omega
        clear c
        go_wp2
        go_end0
        exact ⟨rfl, by (with_reducible repeat (first | refine blk_drewN ?_ _ | refine blk_drew ?_)); exact BKs.out, (by repeat (first | exact HB.out | apply Below.drew | apply pw_below_drewN | refine Below.setCell ?_ GEs.out _))⟩
end Go.Proofs.YtkdmplfldfagnaaDoor.Kp
end
section
namespace Go.Proofs.YtkdmplfldfagnaaDoor.Kp
open Go.RowKit Go.Proofs.YtkdmplfldfagnaaDoorW.PrintWords Go.Proofs.YtkdmplfldfagnaaDoorW.PrintLast Go.Proofs.YtkdmplfldfagnaaDoorW.PrintMore
attribute [local go_sem] max2_int min2_int max_two min_two max_three min_three max_four min_four   -- for this text's walks alone
set_option linter.unusedVariables false
set_option linter.unusedSimpArgs false
/-! ### impl_wordBytes: function 123 -/
def impl_wordBytes.l0 : Nat → List Int → Int → Int → Option (List Int)
 | 0, _, _, _ => none
 | k + 1, x0, x1, x5 => if x5 < 8 then (if x0.length < 140737488355328 then (impl_wordBytes.l0 k (x0 ++ [(x1) % 256]) (x1 / 256) (wrap64 (x5 + 1))) else (none)) else (some x0)
def impl_wordBytes.f (k : Nat) (l0 : List Int) (a1 : Int) : Option (List Int) := impl_wordBytes.l0 k l0 a1 0
theorem impl_wordBytes.mono_l : ∀ k, (∀ y0 y1 y2, LeO (impl_wordBytes.l0 k y0 y1 y2) (impl_wordBytes.l0 (k + 1) y0 y1 y2))
 | 0 => fun _ _ _ r h => by simp [impl_wordBytes.l0] at h
 | k + 1 => by
  have ih0 := impl_wordBytes.mono_l k
  ·intro y0 y1 y2
   unfold impl_wordBytes.l0
   repeat' first
   | (with_reducible exact ih0 _ _ _)
   | (with_reducible exact LeO.refl _)
   | (with_reducible exact LeO.none _)
   | (with_reducible refine LeO.ite ?_ ?_)
   | (with_reducible refine LeO.bind ?_ (fun _ => ?_))
   | exact ih0 _ _ _
   | exact LeO.none _
   | refine LeO.ite ?_ ?_
   | refine LeO.bind ?_ (fun _ => ?_)
theorem impl_wordBytes.mono : ∀ a0 a1 k, LeO (impl_wordBytes.f k a0 a1) (impl_wordBytes.f (k + 1) a0 a1) := by
 intro a0 a1 k
 have ih0 := impl_wordBytes.mono_l k
 unfold impl_wordBytes.f
 repeat' first
   | (with_reducible exact ih0 _ _ _)
   | (with_reducible exact LeO.refl _)
   | (with_reducible exact LeO.none _)
   | (with_reducible refine LeO.ite ?_ ?_)
   | (with_reducible refine LeO.bind ?_ (fun _ => ?_))
   | exact ih0 _ _ _
   | exact LeO.none _
   | refine LeO.ite ?_ ?_
   | refine LeO.bind ?_ (fun _ => ?_)
set_option maxHeartbeats 8000000 in
set_option maxRecDepth 100000 in
theorem impl_wordBytes.calls (k : Nat) (P0_ : Nat → Prop) (u9000_ : Value) (l0 : List Int) (a1 : Int) (r : List Int) (w0 w : World) (hB : Below w0.heap.size w0 w) (ho0 : Kd.R (Kd.int .u8) 5 w w0.heap.size P0_ u9000_ l0) (h : impl_wordBytes.f k l0 a1 = some r) :
  Calls Tryd.prog 123 #[u9000_, .int .u64 a1] w fun e w' => ∃ v0_ : Value, e = .returned (v0_) ∧ Kd.R (Kd.int .u8) 5 w' w0.heap.size (fun k_ => (P0_ k_ ∨ w.heap.size ≤ k_)) v0_ r ∧ Below w0.heap.size w0 w' ∧ Kept w w' (fun k_ => P0_ k_) := by
 have HO0 := Aside0.mk (show Kd.R (Kd.int .u8) 5 w w0.heap.size (fun k_ => (P0_ k_ ∨ w.heap.size ≤ k_)) u9000_ l0 from Kd.R_mono ho0 (fun k_ hk => (.inl hk)))
 have HK := Aside0.mk (Kept.refl w (fun k_ => P0_ k_))
 have HW0 := Aside0.mk hB.size
 have HB := Aside0.mk hB
 clear hB
 have H : (impl_wordBytes.l0 k l0 a1 0) = some r := h
 clear h
 have H' := Aside0.mk H
 clear H
 go_enter Tryd.func123, Tryd.ntmps123
 go_wp2
 go_loopg [0, 1, 5] k (fun kq v0 v1 v5 w' => ∃ (x0_1 : List Int) (x1_1 : Int) (x5_1 : Int), v1 = .int .u64 x1_1 ∧ v5 = .int .i64 x5_1 ∧ Aside0 (impl_wordBytes.l0 kq x0_1 x1_1 x5_1 = some r) ∧ Aside0 (kq ≤ k) ∧ Aside0 (Kd.R (Kd.int .u8) 5 w' w0.heap.size (fun k_ => (P0_ k_ ∨ w.heap.size ≤ k_)) v0 x0_1) ∧ Aside0 (Kept w w' (fun k_ => P0_ k_)) ∧ Aside0 (Below w0.heap.size w0 w'))
 case atStart => exact ⟨(l0), (a1), (0), rS, rS, H', ⟨Nat.le_refl _⟩, ⟨rP HO0⟩, ⟨by repeat (first | (with_reducible first | exact HK.out | apply Kept.alloc | apply Kept.drewN | apply Kept.drew) | exact HK.out)⟩, ⟨bZ HB⟩⟩
 case round =>
  clear H'
  try clear c1
  try clear p2
  obtain ⟨x0_1, x1_1, x5_1, rfl, rfl, HA, HK1, HO_0, HK, HB⟩ := hrel
  cases gk with
  | zero => exact absurd HA.out (by simp [impl_wordBytes.l0])
  | succ k1 =>
   have H := HA.out
   clear HA
   simp only [impl_wordBytes.l0] at H
   by_cases c3 : x5_1 < 8
   ·rw [if_pos c3] at H
    have c3b0 : decide (x5_1 < 8) = true := decide_eq_true c3
    clear c3
    by_cases c4 : x0_1.length < 140737488355328
    ·rw [if_pos c4] at H
     have LMc4 := Aside0.mk c4
     clear c4
     obtain ⟨y197, hy197⟩ : ∃ y_ : List Int, y_ = (x0_1 ++ [(x1_1) % 256]) := ⟨_, rfl⟩
     replace H : (impl_wordBytes.l0 k1 y197 (x1_1 / 256) (wrap64 (x5_1 + 1))) = some r := by first | (rw [hy197]; with_reducible exact H) | (have H2_ := (Option.bind_some _ _).symm.trans H; rw [hy197]; with_reducible exact H2_) | (have H2_ := (Option.bind_some _ _).symm.trans H; with_reducible exact H2_) | with_reducible exact H | (rw [hy197]; exact H) | exact H
     have Ny197 := Aside0.mk hy197
     clear hy197
     have H' := Aside0.mk H
     clear H
     go_wp2_with (first | ((with_reducible refine gate_builtin (b := .append) (xs := #[.tmp 7, .tmp 10]) rfl ?_); at_builtin; refine Kd.R_append (Kd.int .u8) (w0 := w0) w0.heap.size rfl (.tmp 7) (.tmp 10) 46 5 (.int .u8 0) 1 rfl Tryd.underlying46 info5 rfl (by decide) (by omega) u0 x0_1 ((x1_1) % 256) [.int .u8 ((x1_1) % 256)] (fun k_ => (P0_ k_ ∨ w.heap.size ≤ k_)) (fun _ => False) rfl rfl ?aP (fun _ hk => hk.elim) ?aF ?aO ?aB ?aS ?aL ?_; (case aP => exact rfl); (case aB => exact (bZ HB)); (case aF => exact (fun k_ hk => (.inr (Nat.le_trans (by first | exact HK.out.1 | exact (show Kept w _ (fun k_ => P0_ k_) from by repeat (first | (with_reducible first | exact HK.out | apply Kept.alloc | apply Kept.drewN | apply Kept.drew) | exact HK.out)).1) hk)))); (case aO => exact (rP HO_0)); (case aS => exact (below_size (bZ HB))); (case aL => have := LMc4.out; omega); intro v198 w5 ho hb hg hat; rw [← Ny197.out] at ho; replace HB := Aside0.mk (hb); replace HK := Aside0.mk (Kept.of_grown (S := (fun k_ => P0_ k_)) hg (by repeat (first | (with_reducible first | exact HK.out | apply Kept.alloc | apply Kept.drewN | apply Kept.drew) | exact HK.out)) (fun k_ e_ => (HO_0.out.1 k_ e_))); have HO199 := Aside0.mk (ho); clear HO_0; clear ho hb hg hat))
     go_roundg k1
     case measure => have := HK1.out; omega
     case rel => exact ⟨(y197), (x1_1 / 256), (wrap64 (x5_1 + 1)), rS, rS, H', ⟨by have := HK1.out; omega⟩, ⟨rP HO199⟩, ⟨by repeat (first | (with_reducible first | exact HK.out | apply Kept.alloc | apply Kept.drewN | apply Kept.drew) | exact HK.out)⟩, ⟨bZ HB⟩⟩
    ·rw [if_neg c4] at H
     exact absurd H (by simp)
   ·rw [if_neg c3] at H
    have c3b0 : decide (x5_1 < 8) = false := decide_eq_false c3
    clear c3
    obtain rfl := Option.some.inj H
    go_wp2
    go_ret
    exact ⟨_, by first | rfl | (simp [errW_none, errW_some] <;> rfl) | (simp [*, errW_none, errW_some] <;> rfl), by (with_reducible repeat (first | apply Kd.R_alloc | apply Kd.R_drewN | apply Kd.R_drew)); exact HO_0.out, bZ HB, by repeat (first | (with_reducible first | exact HK.out | apply Kept.alloc | apply Kept.drewN | apply Kept.drew) | exact HK.out)⟩
end Go.Proofs.YtkdmplfldfagnaaDoor.Kp
end
section
/- What is proved here: steps of Keccak as the program and the reference write it: what each function answers. No conditions but those that each theorem names. -/
namespace Go.Proofs.YtkdmplfldfagnaaDoor.Kp
open Go.RowKit Go.Proofs.YtkdmplfldfagnaaDoorW.PrintWords Go.Proofs.YtkdmplfldfagnaaDoorW.PrintLast Go.Proofs.YtkdmplfldfagnaaDoorW.PrintMore
set_option linter.unusedVariables false
set_option linter.unusedSimpArgs false
def b8 (x : Int) : List Int := [x % 256, x / 256 % 256, x / 256 / 256 % 256, x / 256 / 256 / 256 % 256, x / 256 / 256 / 256 / 256 % 256, x / 256 / 256 / 256 / 256 / 256 % 256, x / 256 / 256 / 256 / 256 / 256 / 256 % 256, x / 256 / 256 / 256 / 256 / 256 / 256 / 256 % 256]
theorem wordBytes_f (l : List Int) (x : Int) (h : l.length ≤ 1000) : impl_wordBytes.f 9 l x = some (l ++ b8 x) := by
  unfold impl_wordBytes.f
  have w1 : wrap64 (0 + 1) = 1 := by unfold wrap64; rfl
  have w2 : wrap64 (1 + 1) = 2 := by unfold wrap64; rfl
  have w3 : wrap64 (2 + 1) = 3 := by unfold wrap64; rfl
  have w4 : wrap64 (3 + 1) = 4 := by unfold wrap64; rfl
  have w5 : wrap64 (4 + 1) = 5 := by unfold wrap64; rfl
  have w6 : wrap64 (5 + 1) = 6 := by unfold wrap64; rfl
  have w7 : wrap64 (6 + 1) = 7 := by unfold wrap64; rfl
  have w8 : wrap64 (7 + 1) = 8 := by unfold wrap64; rfl
  simp only [impl_wordBytes.l0, w1, w2, w3, w4, w5, w6, w7, w8]
  simp only [show ((0 : Int) < 8) = True from eq_true (by decide), show ((1 : Int) < 8) = True from eq_true (by decide), show ((2 : Int) < 8) = True from eq_true (by decide), show ((3 : Int) < 8) = True from eq_true (by decide), show ((4 : Int) < 8) = True from eq_true (by decide), show ((5 : Int) < 8) = True from eq_true (by decide), show ((6 : Int) < 8) = True from eq_true (by decide), show ((7 : Int) < 8) = True from eq_true (by decide), show ((8 : Int) < 8) = False from eq_false (by decide), if_true, if_false, List.length_append, List.length_cons, List.length_nil]
  rw [if_pos (by omega), if_pos (by omega), if_pos (by omega), if_pos (by omega), if_pos (by omega), if_pos (by omega), if_pos (by omega), if_pos (by omega)]
  simp [b8]
def txl (s : List Int) : Nat → List Int
  | 0 => []
  | k + 1 => txl s k ++ b8 (ga s k)
theorem txl_len (s : List Int) (k : Nat) : (txl s k).length = 8 * k := by
  induction k with
  | zero => rfl
  | succ k ih => simp only [txl, List.length_append, ih]; simp [b8]; omega
set_option maxHeartbeats 4000000 in
set_option maxRecDepth 100000 in
theorem impl_text.calls (g : Nat) (s : List Int) (hs : s.length = 25) (w : World) (hA : w.heap[g]? = some (.cells (ue s) 97 (0, 0))) :
    Calls Tryd.prog 93 #[.pointer (some ⟨g, 0, none⟩)] w fun e w' => e = .returned (.string (strOfNums (txl s 25))) ∧ Below w.heap.size w w' := by
  have HB := Aside0.mk (Below.refl w.heap.size w)
  have BKs := Aside0.mk hA
  have HS := Aside0.mk hs
  clear hA hs
  obtain ⟨i0, hi, hz0, hz1, hz2⟩ := info_parts info5
  go_enter Tryd.func93, Tryd.ntmps93
  go_wp2_with (first | ((with_reducible refine gate_dst (N := 6) rfl ?_); refine wpList_make_own _ rfl _ _ 46 rfl w.heap.size 5 i0 (.int .u8 0) 1 Tryd.underlying46 hi hz0 hz1 .i64 .i64 200 200 rfl rfl rfl (by rw [hz2]; decide) (by decide) (Nat.le_refl _) ?_; intro w1_ ho hgr; have HO := Aside0.mk (show Kd.R (Kd.int .u8) 5 w1_ w.heap.size (fun _ => True) _ ([] : List Int) from Kd.R_of_own (h1 := fun _ => rfl) ho (fun _ _ => trivial)); have n0_ := Aside0.mk (Below.grown HB.out hgr (Nat.le_refl _) (fun _ h => by cases h)); clear HB; have HB := n0_; clear n0_ ho hgr))
  go_loopg [3, 8] 26 (fun kq v3 v8 w' => ∃ (k : Nat) (x : Int) (u : Value), v3 = u ∧ v8 = .int .i64 x ∧ Aside0 (x = (k : Int) ∧ k + kq = 26 ∧ k ≤ 25) ∧ Aside0 (Kd.R (Kd.int .u8) 5 w' w.heap.size (fun _ => True) u (txl s k)) ∧ Aside0 (Below w.heap.size w w'))
  case atStart => exact ⟨0, 0, _, rfl, rfl, ⟨rfl, rfl, by decide⟩, ⟨rP HO⟩, ⟨(by repeat (first | exact HB.out | apply Below.drew | apply pw_below_drewN | refine Below.setCell ?_ GEs.out _))⟩⟩
  case round =>
    clear HB HO
    obtain ⟨K1, x, u, rfl, rfl, HK1, HO, HB⟩ := hrel
    cases gk with
    | zero => exact absurd HK1.out (by omega)
    | succ k1 =>
      by_cases c : K1 < 25
      · have c0 : decide (x < 25) = true := decide_eq_true (by have := HK1.out; omega)
        have HC1 := Aside0.mk c
        clear c
        have px : (0 ≤ x) = True := eq_true (by have := HK1.out; omega)
        have qx : (x < 25) = True := eq_true (by have := HK1.out; have := HC1.out; omega)
        have hc0 : wr.cell? ⟨g, x.toNat, none⟩ = some (.int .u64 (ga s x.toNat)) := (blk_cell ((HB.out.block g (blk_lt BKs.out)).trans BKs.out) _).trans (ue_get (by rw [HS.out]; have := HK1.out; have := HC1.out; omega))
        go_wp2_with (first | (go_at_call 123; (with_reducible refine (impl_wordBytes.calls 9 (fun _ => True) _ (txl s K1) (ga s x.toNat) _ w _ ?side1 ?side2 (wordBytes_f _ _ (by rw [txl_len]; have := HC1.out; omega))).mono ?_); (case side1 => exact (by repeat (first | exact HB.out | apply Below.drew | apply pw_below_drewN | refine Below.setCell ?_ GEs.out _))); (case side2 => (with_reducible repeat (first | apply Kd.R_alloc | apply Kd.R_drewN | apply Kd.R_drew)); exact HO.out); rintro e w2_ ⟨v4, rfl, ho, hb, hk⟩; have n0_ := Aside0.mk (Kd.R_mono ho (fun _ _ => trivial) : Kd.R (Kd.int .u8) 5 w2_ w.heap.size (fun _ => True) v4 _); have n1_ := Aside0.mk hb; clear HO HB; have HO := n0_; have HB := n1_; clear n0_ n1_ ho hb hk))
        go_roundg k1
        case measure => omega
        case rel => exact ⟨K1 + 1, _, _, rfl, rfl, ⟨by have := HK1.out; unfold wrap64; omega, by have := HK1.out; omega, by have := HK1.out; have := HC1.out; omega⟩, ⟨by have h_ := HO.out; rw [show x.toNat = K1 by have := HK1.out; omega] at h_; (with_reducible repeat (first | apply Kd.R_alloc | apply Kd.R_drewN | apply Kd.R_drew)); exact h_⟩, ⟨(by repeat (first | exact HB.out | apply Below.drew | apply pw_below_drewN | refine Below.setCell ?_ GEs.out _))⟩⟩
      · have c0 : decide (x < 25) = false := decide_eq_false (by have := HK1.out; omega)
        obtain rfl : K1 = 25 := by have := HK1.out; omega
        clear c
        have hcv := own_string (P := Tryd.prog) Tryd.underlying46 Tryd.underlying5 Tryd.underlying9 (Kd.own_of_R HO.out)
        go_wp2
        go_ret
        exact ⟨rfl, (by repeat (first | exact HB.out | apply Below.drew | apply pw_below_drewN | refine Below.setCell ?_ GEs.out _))⟩
end Go.Proofs.YtkdmplfldfagnaaDoor.Kp
end
section
/- What is proved here: steps of Keccak as the program and the reference write it: what each function answers. No conditions but those that each theorem names. -/
namespace Go.Proofs.YtkdmplfldfagnaaDoor.Kp
open Go.RowKit Go.Proofs.YtkdmplfldfagnaaDoorW.PrintWords Go.Proofs.YtkdmplfldfagnaaDoorW.PrintLast Go.Proofs.YtkdmplfldfagnaaDoorW.PrintMore
set_option linter.unusedVariables false
set_option linter.unusedSimpArgs false
section
variable {P : Program} {ops : Array Oper} {rest : List Oper} {o : Oper} {a : Act} {Q : Exit → Act → World → Prop}
theorem below_bytesWorld (W : World) (e : TypeId) (s : ByteArray) : Below W.heap.size W (Lib.bytesWorld W e s) :=
  ⟨rfl, rfl, rfl, by rw [Lib.bytesWorld_size]; omega, fun k hk => Lib.bytesWorld_at_old W e s k hk⟩
theorem conv_event {W : World} (hgd : o.guard = none) {N : Tmp} (_hd : o.dst = some N) {src dst e : TypeId} {x : Operand} (ho : o.op = .convert src dst x) {S : ByteArray} (hx : a.eval x = .string S)
    (hs : P.underlying src = some .string) (hd : P.underlying dst = some (.slice e)) (he : P.underlying e = some (.int .u8))
    (h : ∀ g c cs w1, g = W.heap.size → w1.heap[g]? = some (.cells cs e (cs.size, cs.size + 1)) → S.size ≤ cs.size → (∀ i, i < S.size → w1.cell? ⟨g, i, none⟩ = some (.int .u8 (S.data.toList.getD i 0).toNat)) → Below W.heap.size W w1 →
      wpList P ops Q rest (a.put o.dst (.slice (some ⟨g, 0, none⟩) S.size c)) w1) : wpList P ops Q (o :: rest) a W := by
  refine Kd.event_run hgd (v := .slice (some ⟨W.heap.size, 0, none⟩) S.size (grownCap W S.size 0 e)) (w1 := Lib.bytesWorld W e S) ?_ (h _ _ _ _ rfl (Lib.bytesWorld_at_new W e S) ?_ (fun i hi => Lib.bytesWorld_cell W e S i hi) (below_bytesWorld W e S))
  · have := Lib.run_convert_string_bytes (P := P) W src dst e S hs hd he
    unfold execOp
    rw [ho]
    dsimp only
    rw [hx]
    rw [Sem.run_bind, this]
    rfl
  · unfold Lib.bytesCells
    rw [Array.size_append, Array.size_map]
    exact Nat.le_add_right _ _
end
end Go.Proofs.YtkdmplfldfagnaaDoor.Kp
end
section
/- What is proved here: steps of Keccak as the program and the reference write it: what each function answers. No conditions but those that each theorem names. -/
namespace Go.Proofs.YtkdmplfldfagnaaDoor.Kp
open Go.RowKit Go.Proofs.YtkdmplfldfagnaaDoorW.PrintWords Go.Proofs.YtkdmplfldfagnaaDoorW.PrintLast Go.Proofs.YtkdmplfldfagnaaDoorW.PrintMore
set_option linter.unusedVariables false
set_option linter.unusedSimpArgs false
def Tryd.rep_ren : Go.Shelf.Ren := ⟨fun | 105 => 121 | 212 => 136 | 99 => 137 | 165 => 138 | 166 => 139 | 170 => 140 | 169 => 141 | 263 => 145 | 264 => 146 | 206 => 147 | 240 => 148 | 241 => 149 | 276 => 150 | 277 => 151 | n => n, fun | 9 => 9 | 3 => 3 | 4 => 4 | 20 => 20 | 0 => 0 | 46 => 57 | 109 => 125 | 5 => 5 | 72 => 130 | 76 => 133 | 51 => 109 | 146 => 138 | 53 => 91 | 148 => 140 | 70 => 128 | 37 => 46 | 75 => 132 | 127 => 142 | 164 => 143 | 80 => 98 | n => n, fun | n => n⟩
theorem Tryd.rep : Go.Proofs.Lays.n105 Tryd.prog Tryd.rep_ren := {
  mixed := by kernel_rfl
  f99 := Tryd.func137.trans (congrArg some (by kernel_rfl))
  f105 := Tryd.func121.trans (congrArg some (by kernel_rfl))
  f165 := Tryd.func138.trans (congrArg some (by kernel_rfl))
  f166 := Tryd.func139.trans (congrArg some (by kernel_rfl))
  f169 := Tryd.func141.trans (congrArg some (by kernel_rfl))
  f170 := Tryd.func140.trans (congrArg some (by kernel_rfl))
  f206 := Tryd.func147.trans (congrArg some (by kernel_rfl))
  f212 := Tryd.func136.trans (congrArg some (by kernel_rfl))
  f240 := Tryd.func148.trans (congrArg some (by kernel_rfl))
  f241 := Tryd.func149.trans (congrArg some (by kernel_rfl))
  f263 := Tryd.func145.trans (congrArg some (by kernel_rfl))
  f264 := Tryd.func146.trans (congrArg some (by kernel_rfl))
  f276 := Tryd.func150.trans (congrArg some (by kernel_rfl))
  f277 := Tryd.func151.trans (congrArg some (by kernel_rfl))
  t0 := Tryd.underlying0
  a0 := Tryd.isAgg0
  z0 := Tryd.sizeOf0
  v0 := Tryd.zeroValue0
  t3 := Tryd.underlying3
  a3 := Tryd.isAgg3
  z3 := Tryd.sizeOf3
  v3 := Tryd.zeroValue3
  t4 := Tryd.underlying4
  a4 := Tryd.isAgg4
  z4 := Tryd.sizeOf4
  v4 := Tryd.zeroValue4
  t5 := Tryd.underlying5
  a5 := Tryd.isAgg5
  z5 := Tryd.sizeOf5
  v5 := Tryd.zeroValue5
  t9 := Tryd.underlying9
  a9 := Tryd.isAgg9
  z9 := Tryd.sizeOf9
  v9 := Tryd.zeroValue9
  t20 := Tryd.underlying20
  a20 := Tryd.isAgg20
  z20 := Tryd.sizeOf20
  v20 := Tryd.zeroValue20
  t37 := Tryd.underlying46
  a37 := Tryd.isAgg46
  z37 := Tryd.sizeOf46
  v37 := Tryd.zeroValue46
  t46 := Tryd.underlying57
  a46 := Tryd.isAgg57
  z46 := Tryd.sizeOf57
  v46 := Tryd.zeroValue57
  t51 := Tryd.underlying109
  a51 := Tryd.isAgg109
  z51 := Tryd.sizeOf109
  v51 := Tryd.zeroValue109
  t53 := Tryd.underlying91
  a53 := Tryd.isAgg91
  z53 := Tryd.sizeOf91
  v53 := Tryd.zeroValue91
  t70 := Tryd.underlying128
  a70 := Tryd.isAgg128
  z70 := Tryd.sizeOf128
  v70 := Tryd.zeroValue128
  t72 := Tryd.underlying130
  a72 := Tryd.isAgg130
  z72 := Tryd.sizeOf130
  v72 := Tryd.zeroValue130
  t75 := Tryd.underlying132
  a75 := Tryd.isAgg132
  z75 := Tryd.sizeOf132
  v75 := Tryd.zeroValue132
  t76 := Tryd.underlying133
  a76 := Tryd.isAgg133
  z76 := Tryd.sizeOf133
  v76 := Tryd.zeroValue133
  t109 := Tryd.underlying125
  a109 := Tryd.isAgg125
  z109 := Tryd.sizeOf125
  v109 := Tryd.zeroValue125
  t127 := Tryd.underlying142
  a127 := Tryd.isAgg142
  z127 := Tryd.sizeOf142
  v127 := Tryd.zeroValue142
  t146 := Tryd.underlying138
  a146 := Tryd.isAgg138
  z146 := Tryd.sizeOf138
  v146 := Tryd.zeroValue138
  t148 := Tryd.underlying140
  a148 := Tryd.isAgg140
  z148 := Tryd.sizeOf140
  v148 := Tryd.zeroValue140
  t164 := Tryd.underlying143
  a164 := Tryd.isAgg143
  z164 := Tryd.sizeOf143
  v164 := Tryd.zeroValue143 }


theorem repExtra : Go.Proofs.Builder.Extra Tryd.prog Tryd.rep_ren := {
  sizeBuilder := by kernel_rfl
  liesBuilder := by kernel_rfl
  t5 := Tryd.rep.t5
  a5 := Tryd.rep.a5
  z5 := Tryd.rep.z5
  v5 := Tryd.rep.v5
  infoByte := by kernel_rfl
  cellsByte := by kernel_rfl
  sizeByte := by kernel_rfl
  neB5 := by decide }
theorem rep_calls (Z : Nat) (w : World) (h : Z ≤ 135) : Calls Tryd.prog 121 #[.string ⟨#[0]⟩, .int .i64 (Z : Int)] w fun e w' => e = .returned (.string ⟨(List.replicate Z (0 : UInt8)).toArray⟩) ∧ Below w.heap.size w w' := by
  have hr : Lib.repeatL (ByteArray.data (⟨#[0]⟩ : ByteArray)).toList Z = List.replicate Z (0 : UInt8) := by
    have := Lib.repeatL_replicate (0 : UInt8) 1 Z
    rwa [Nat.mul_one] at this
  have := Go.Proofs.Any.strings_Repeat Tryd.rep repExtra (⟨#[0]⟩ : ByteArray) Z w (by omega) (by show 1 * Z ≤ _; omega)
  rwa [hr] at this
theorem blkf_set {w : World} {g : Nat} {t : TypeId} {cs : Array Value} {fr : Nat × Nat} (h : w.heap[g]? = some (.cells cs t fr)) (i : Nat) (u : Value) : (w.setCell ⟨g, i, none⟩ u).heap[g]? = some (.cells (cs.setIfInBounds i u) t fr) := by
  simp [World.setCell, Array.getElem?_modify, h]
section
variable {P : Program} {ops : Array Oper} {rest : List Oper} {o : Oper} {a : Act} {Q : Exit → Act → World → Prop}
theorem conv2_event {W : World} (hgd : o.guard = none) {N : Tmp} (_hd : o.dst = some N) {src dst e : TypeId} {x : Operand} (ho : o.op = .convert src dst x) {g n c : Nat} (hx : a.eval x = .slice (some ⟨g, 0, none⟩) n c)
    (hs : P.underlying src = some (.slice e)) (he : P.underlying e = some (.int .u8)) (hd : P.underlying dst = some .string) (xs : List Int) (hlen : xs.length = n) (hcell : ∀ i, i < n → W.cell? ⟨g, i, none⟩ = some (.int .u8 (xs.getD i 0)))
    (h : wpList P ops Q rest (a.put o.dst (.string (strOfNums xs))) W) : wpList P ops Q (o :: rest) a W := by
  refine Kd.event_run hgd (v := .string (strOfNums xs)) (w1 := W) ?_ h
  have := run_convert_bytes_arg (P := P) W src e hs he g 0 n c xs hlen (fun i hi => by rw [Nat.zero_add]; exact hcell i hi) dst hd
  unfold execOp
  rw [ho]
  dsimp only
  rw [hx]
  rw [Sem.run_bind, this]
  rfl
end
def nb (t : ByteArray) : List Int := t.data.toList.map fun b => (b.toNat : Int)
theorem nb_len (t : ByteArray) : (nb t).length = t.size := by
  unfold nb
  rw [List.length_map]
  exact Array.length_toList
def padRaw (xs : List Int) : List Int := xs ++ [1] ++ List.replicate (135 - xs.length % 136) 0
def padL (xs : List Int) : List Int := (padRaw xs).set ((padRaw xs).length - 1) (Go.bits .or .u8 (ga (padRaw xs) ((padRaw xs).length - 1)) 128)
theorem nb_append (a b : ByteArray) : nb (a ++ b) = nb a ++ nb b := by
  unfold nb
  have : (a ++ b).data = a.data ++ b.data := by first | rfl | simp
  rw [this]
  simp
theorem nb_pad (t : ByteArray) (Z : Nat) (h : Z = 135 - t.size % 136) : nb (t ++ (⟨#[1]⟩ : ByteArray) ++ ⟨(List.replicate Z (0 : UInt8)).toArray⟩) = padRaw (nb t) := by
  rw [nb_append, nb_append]
  unfold padRaw
  rw [nb_len, ← h]
  congr 1
  simp [nb]
theorem nb_get (t : ByteArray) (i : Nat) (h : i < t.size) : ((t.data.toList.getD i 0).toNat : Int) = ga (nb t) i := by
  have h' : i < t.data.toList.length := by rw [Array.length_toList]; exact h
  unfold ga nb
  rw [List.getD_eq_getElem?_getD, List.getD_eq_getElem?_getD, List.getElem?_map, List.getElem?_eq_getElem h']
  rfl
theorem padL_len (xs : List Int) : (padL xs).length = (padRaw xs).length := by simp [padL]
theorem pad_cells {xs : List Int} {cs : Array Value} {n : Nat} (hl : (padRaw xs).length = n) (h0 : 0 < n) (hsz : n ≤ cs.size) (hcs : ∀ i, i < n → cs[i]? = some (.int .u8 (ga (padRaw xs) i))) (i : Nat) (hi : i < n) :
    (cs.setIfInBounds (n - 1) (.int .u8 (Go.bits .or .u8 (ga (padRaw xs) (n - 1)) 128)))[i]? = some (.int .u8 ((padL xs).getD i 0)) := by
  unfold padL
  rw [hl, Array.getElem?_setIfInBounds]
  by_cases h : n - 1 = i
  · rw [if_pos h, if_pos (by omega), List.getD_eq_getElem?_getD, List.getElem?_set, if_pos h, if_pos (by omega)]
    rfl
  · rw [if_neg h, hcs i hi, List.getD_eq_getElem?_getD, List.getElem?_set, if_neg h]
    rfl
set_option maxHeartbeats 4000000 in
set_option maxRecDepth 100000 in
theorem impl_KeccakPad.calls (t : ByteArray) (ht : t.size ≤ 140737488351232) (w : World) :
    Calls Tryd.prog 90 #[.string t] w fun e w' => e = .returned (.string (strOfNums (padL (nb t)))) ∧ Below w.heap.size w w' := by
  have HB := Aside0.mk (Below.refl w.heap.size w)
  have HTt := Aside0.mk ht
  obtain ⟨m, hm, em⟩ : ∃ y_, Int.tmod (t.size : Int) 136 = y_ ∧ Aside0 (y_ = ((t.size % 136 : Nat) : Int)) := ⟨_, rfl, ⟨by rw [Int.tmod_eq_emod_of_nonneg (by omega)]; omega⟩⟩
  obtain ⟨Z, hz, ez⟩ : ∃ Z : Nat, wrap64 (135 - m) = (Z : Int) ∧ Aside0 (Z = 135 - t.size % 136) := ⟨135 - t.size % 136, by have := em.out; unfold wrap64; omega, ⟨rfl⟩⟩
  obtain ⟨S, hS⟩ : ∃ S : ByteArray, S = (t ++ (⟨#[1]⟩ : ByteArray)) ++ ⟨(List.replicate Z (0 : UInt8)).toArray⟩ := ⟨_, rfl⟩
  have HSz := Aside0.mk (show S.size = t.size + 1 + Z by rw [hS, ByteArray.size_append, ByteArray.size_append]; show t.size + 1 + (List.replicate Z (0 : UInt8)).toArray.size = _; rw [List.size_toArray, List.length_replicate])
  have HSn := Aside0.mk (show nb S = padRaw (nb t) by rw [hS]; exact nb_pad t Z ez.out)
  have HSe := Aside0.mk hS
  have c1 : (9223372036854775807 < t.size + 1) = False := eq_false (by omega)
  have c2 : (t.size + 1 ≤ 9223372036854775807) = True := eq_true (by omega)
  have c3 : (9223372036854775807 < t.size + 1 + Z) = False := eq_false (by have := ez.out; omega)
  have c4 : (t.size + 1 + Z ≤ 9223372036854775807) = True := eq_true (by have := ez.out; omega)
  clear ht hS
  go_enter Tryd.func90, Tryd.ntmps90
  go_wp2_with (first | (go_at_call 121; (with_reducible refine (rep_calls Z _ (by have := ez.out; omega)).mono ?_); rintro e w1_ ⟨rfl, hb⟩; have n0_ := Aside0.mk (below_then (by repeat (first | exact HB.out | apply Below.drew | apply pw_below_drewN | refine Below.setCell ?_ GEs.out _)) (Below.size (by repeat (first | exact HB.out | apply Below.drew | apply pw_below_drewN | refine Below.setCell ?_ GEs.out _))) hb); clear HB; have HB := n0_; clear n0_ hb) | ((with_reducible refine gate_dst (N := 14) rfl ?_); refine conv_event ?hg (N := 14) ?hd (src := 9) (dst := 46) (e := 5) (S := S) rfl ?hx Tryd.underlying9 Tryd.underlying46 Tryd.underlying5 ?_; (case hg => rfl); (case hd => rfl); (case hx => rw [HSe.out]; rfl); intro g c cs w2_ hg hblk hsz hcell hb; have n0_ := Aside0.mk (below_then (by repeat (first | exact HB.out | apply Below.drew | apply pw_below_drewN | refine Below.setCell ?_ GEs.out _)) (Below.size (by repeat (first | exact HB.out | apply Below.drew | apply pw_below_drewN | refine Below.setCell ?_ GEs.out _))) hb); have GEs := Aside0.mk (show w.heap.size ≤ g by rw [hg]; exact Below.size (by repeat (first | exact HB.out | apply Below.drew | apply pw_below_drewN | refine Below.setCell ?_ GEs.out _))); clear HB; have HB := n0_; clear n0_ hb hg; have HBK := Aside0.mk hblk; have HSC := Aside0.mk hsz; have HCE := Aside0.mk (show ∀ i, i < S.size → cs[i]? = some (.int .u8 (ga (padRaw (nb t)) i)) from fun i hi => by rw [← cell_of_row w2_ g i cs _ _ hblk, hcell i hi, nb_get _ _ hi, HSn.out]); clear hblk hsz hcell; obtain ⟨li, hli, eli⟩ : ∃ y_, wrap64 ((S.size : Int) - 1) = y_ ∧ Aside0 (y_ = ((S.size - 1 : Nat) : Int)) := ⟨_, rfl, ⟨by have := HSz.out; have := HTt.out; have := ez.out; unfold wrap64; omega⟩⟩; have pl : (0 ≤ li) = True := eq_true (by have := eli.out; omega); have ql : (li < (S.size : Int)) = True := eq_true (by have := eli.out; have := HSz.out; omega); have hcl : w2_.cell? ⟨g, li.toNat, none⟩ = some (.int .u8 (ga (padRaw (nb t)) li.toNat)) := (cell_of_row w2_ g _ cs _ _ HBK.out).trans (HCE.out _ (by have := eli.out; have := HSz.out; omega)); have hfz : w2_.frozen? ⟨g, li.toNat, none⟩ = false := (by have h1_ := HBK.out; have h2_ := HSC.out; have h3_ := eli.out; have h4_ := HSz.out; unfold World.frozen?; dsimp only; rw [h1_]; dsimp only; rw [decide_eq_false (by omega)]; rfl)) | ((with_reducible refine gate_dst (N := 24) rfl ?_); refine conv2_event ?hg (N := 24) ?hd (src := 46) (dst := 9) (e := 5) rfl (g := g) (n := S.size) (c := c) ?hx Tryd.underlying46 Tryd.underlying5 Tryd.underlying9 (padL (nb t)) ?hlen ?hcell ?_; (case hg => rfl); (case hd => rfl); (case hx => rfl); (case hlen => rw [padL_len, ← HSn.out, nb_len]); (case hcell => intro i hi; refine (cell_of_row _ g i _ _ _ (blkf_set HBK.out li.toNat _)).trans ?_; rw [show li.toNat = S.size - 1 by have := eli.out; omega]; exact pad_cells (by rw [← HSn.out, nb_len]) (by omega) HSC.out HCE.out i hi)))
  go_ret
  exact ⟨rfl, (by repeat (first | exact HB.out | apply Below.drew | apply pw_below_drewN | refine Below.setCell ?_ GEs.out _))⟩
end Go.Proofs.YtkdmplfldfagnaaDoor.Kp
end
section
namespace Go.Proofs.YtkdmplfldfagnaaDoor.Kp
open Go.RowKit Go.Proofs.YtkdmplfldfagnaaDoorW.PrintWords Go.Proofs.YtkdmplfldfagnaaDoorW.PrintLast Go.Proofs.YtkdmplfldfagnaaDoorW.PrintMore
attribute [local go_sem] max2_int min2_int max_two min_two max_three min_three max_four min_four   -- for this text's walks alone
set_option linter.unusedVariables false
set_option linter.unusedSimpArgs false
/-! ### impl_wordAt: function 91 -/
def impl_wordAt.l0 : Nat → ByteArray → Int → Int → Int → Option (Int)
 | 0, _, _, _, _ => none
 | k + 1, x0, x1, x5, x6 => if x6 ≥ 0 then (if 0 ≤ (wrap64 (x1 + x6)) then (if (wrap64 (x1 + x6)) < (x0.size : Int) then (impl_wordAt.l0 k x0 x1 (Go.bits .or .u64 (IntKind.u64.wrap (x5 * 256)) (IntKind.u64.wrap (bt x0 (wrap64 (x1 + x6))))) (wrap64 (x6 - 1))) else (none)) else (none)) else (some x5)
def impl_wordAt.f (k : Nat) (a0 : ByteArray) (a1 : Int) : Option (Int) := impl_wordAt.l0 k a0 a1 0 7
theorem impl_wordAt.mono_l : ∀ k, (∀ y0 y1 y2 y3, LeO (impl_wordAt.l0 k y0 y1 y2 y3) (impl_wordAt.l0 (k + 1) y0 y1 y2 y3))
 | 0 => fun _ _ _ _ r h => by simp [impl_wordAt.l0] at h
 | k + 1 => by
  have ih0 := impl_wordAt.mono_l k
  ·intro y0 y1 y2 y3
   unfold impl_wordAt.l0
   repeat' first
   | (with_reducible exact ih0 _ _ _ _)
   | (with_reducible exact LeO.refl _)
   | (with_reducible exact LeO.none _)
   | (with_reducible refine LeO.ite ?_ ?_)
   | (with_reducible refine LeO.bind ?_ (fun _ => ?_))
   | exact ih0 _ _ _ _
   | exact LeO.none _
   | refine LeO.ite ?_ ?_
   | refine LeO.bind ?_ (fun _ => ?_)
theorem impl_wordAt.mono : ∀ a0 a1 k, LeO (impl_wordAt.f k a0 a1) (impl_wordAt.f (k + 1) a0 a1) := by
 intro a0 a1 k
 have ih0 := impl_wordAt.mono_l k
 unfold impl_wordAt.f
 repeat' first
   | (with_reducible exact ih0 _ _ _ _)
   | (with_reducible exact LeO.refl _)
   | (with_reducible exact LeO.none _)
   | (with_reducible refine LeO.ite ?_ ?_)
   | (with_reducible refine LeO.bind ?_ (fun _ => ?_))
   | exact ih0 _ _ _ _
   | exact LeO.none _
   | refine LeO.ite ?_ ?_
   | refine LeO.bind ?_ (fun _ => ?_)
set_option maxHeartbeats 8000000 in
set_option maxRecDepth 100000 in
theorem impl_wordAt.calls (k : Nat) (a0 : ByteArray) (a1 : Int) (r : Int) (w : World) (h : impl_wordAt.f k a0 a1 = some r) :
  Calls Tryd.prog 91 #[.string a0, .int .i64 a1] w fun e w' => e = .returned (.int .u64 r) ∧ Drawn0 w w' := by
 have H : (impl_wordAt.l0 k a0 a1 0 7) = some r := h
 clear h
 have H' := Aside0.mk H
 clear H
 go_enter Tryd.func91, Tryd.ntmps91
 go_wp2
 go_loopg [5, 6] k (fun kq v5 v6 w' => ∃ (x5_1 : Int) (x6_1 : Int), v5 = .int .u64 x5_1 ∧ v6 = .int .i64 x6_1 ∧ Aside0 (impl_wordAt.l0 kq a0 a1 x5_1 x6_1 = some r) ∧ Aside0 (kq ≤ k) ∧ Drawn0 w w')
 case atStart => exact ⟨(0), (7), rS, rS, H', ⟨Nat.le_refl _⟩, by repeat (first | exact Drawn0.refl _ | apply Drawn0.step)⟩
 case round =>
  clear H'
  try clear p2
  obtain ⟨x5_1, x6_1, rfl, rfl, HA, HK1, ⟨m1, rfl⟩⟩ := hrel
  cases gk with
  | zero => exact absurd HA.out (by simp [impl_wordAt.l0])
  | succ k1 =>
   have H := HA.out
   clear HA
   simp only [impl_wordAt.l0] at H
   by_cases c3 : x6_1 ≥ 0
   ·rw [if_pos c3] at H
    have c3b0 : decide (0 ≤ x6_1) = true := decide_eq_true c3
    clear c3
    obtain ⟨ji4, hji4⟩ : ∃ j_ : Int, (wrap64 (a1 + x6_1)) = j_ := ⟨_, rfl⟩
    replace H : (if 0 ≤ (ji4) then (if (ji4) < (a0.size : Int) then (impl_wordAt.l0 k1 a0 a1 (Go.bits .or .u64 (IntKind.u64.wrap (x5_1 * 256)) (IntKind.u64.wrap (bt a0 (ji4)))) (wrap64 (x6_1 - 1))) else (none)) else (none)) = some r := by first | (rw [hji4] at H; exact H) | (simp only [hji4] at H ⊢; exact H)
    have hji4w : (IntKind.i64.wrap (a1 + x6_1)) = ji4 := (i64_w _).trans hji4
    by_cases c5 : 0 ≤ (ji4)
    ·rw [if_pos c5] at H
     have c5b0 : decide (0 ≤ (ji4)) = true := decide_eq_true c5
     clear c5
     by_cases c6 : (ji4) < (a0.size : Int)
     ·rw [if_pos c6] at H
      have c6b0 : decide ((ji4) < (a0.size : Int)) = true := decide_eq_true c6
      clear c6
      have H' := Aside0.mk H
      clear H
      have p7 : 0 ≤ ((ji4) : Int) := of_decide_eq_true (by first | (with_reducible assumption) | assumption)
      have q7 : (ji4) < (a0.size : Int) := of_decide_eq_true (by first | (with_reducible assumption) | assumption)
      have hx7 := bt_at a0 (ji4)
      replace p7 := eq_true p7
      replace q7 := eq_true q7
      go_wp2
      go_roundg k1
      case measure => have := HK1.out; omega
      case rel => exact ⟨(Go.bits .or .u64 (IntKind.u64.wrap (x5_1 * 256)) (IntKind.u64.wrap (bt a0 (ji4)))), (wrap64 (x6_1 - 1)), (by first | rfl | (simp; done) | (simp only [← hji4] <;> (first | rfl | simp)) | (simp [*]; done)), rS, H', ⟨by have := HK1.out; omega⟩, by repeat (first | exact Drawn0.refl _ | apply Drawn0.step)⟩
     ·rw [if_neg c6] at H
      exact absurd H (by simp)
    ·rw [if_neg c5] at H
     exact absurd H (by simp)
   ·rw [if_neg c3] at H
    have c3b0 : decide (0 ≤ x6_1) = false := decide_eq_false c3
    clear c3
    obtain rfl := Option.some.inj H
    go_wp2
    go_ret
    exact ⟨rS, rD⟩
end Go.Proofs.YtkdmplfldfagnaaDoor.Kp
end
section
/- What is proved here: steps of Keccak as the program and the reference write it: what each function answers. No conditions but those that each theorem names. -/
namespace Go.Proofs.YtkdmplfldfagnaaDoor.Kp
open Go.RowKit Go.Proofs.YtkdmplfldfagnaaDoorW.PrintWords Go.Proofs.YtkdmplfldfagnaaDoorW.PrintLast Go.Proofs.YtkdmplfldfagnaaDoorW.PrintMore
set_option linter.unusedVariables false
set_option linter.unusedSimpArgs false
theorem wordAt_some (p : ByteArray) (a : Nat) (h : a + 8 ≤ p.size) (hp : p.size ≤ 281474976710656) (d : Nat) : ∀ (k : Nat) (x i : Int), d ≤ 8 → i = (d : Int) - 1 → d < k → ∃ v, impl_wordAt.l0 k p (a : Int) x i = some v := by
  induction d with
  | zero =>
    intro k x i hd hi hk
    obtain ⟨k, rfl⟩ : ∃ j, k = j + 1 := ⟨k - 1, by omega⟩
    simp only [impl_wordAt.l0]
    rw [if_neg (by omega)]
    exact ⟨_, rfl⟩
  | succ d ih =>
    intro k x i hd hi hk
    obtain ⟨k, rfl⟩ : ∃ j, k = j + 1 := ⟨k - 1, by omega⟩
    simp only [impl_wordAt.l0]
    have e1 : wrap64 ((a : Int) + i) = a + d := by unfold wrap64; omega
    have e2 : wrap64 (i - 1) = (d : Int) - 1 := by unfold wrap64; omega
    rw [if_pos (by omega), e1, if_pos (by omega), if_pos (by omega), e2]
    exact ih k _ _ (by omega) rfl (by omega)
def wv (p : ByteArray) (a : Nat) : Int := (impl_wordAt.f 9 p (a : Int)).getD 0
theorem wordAt_f (p : ByteArray) (a : Nat) (h : a + 8 ≤ p.size) (hp : p.size ≤ 281474976710656) : impl_wordAt.f 9 p (a : Int) = some (wv p a) := by
  obtain ⟨v, hv⟩ := wordAt_some p a h hp 8 9 0 7 (by omega) (by omega) (by omega)
  have hv' : impl_wordAt.f 9 p (a : Int) = some v := hv
  unfold wv
  rw [hv']
  rfl
def xst (s : List Int) (p : ByteArray) (a : Nat) : Nat → List Int
  | 0 => s
  | k + 1 => (xst s p a k).set k (xr (ga (xst s p a k) k) (wv p (a + 8 * k)))
theorem xst_len (s : List Int) (p : ByteArray) (a k : Nat) : (xst s p a k).length = s.length := by
  induction k with
  | zero => rfl
  | succ k ih => simp [xst, ih]
def abst (p : ByteArray) : Nat → List Int
  | 0 => List.replicate 25 0
  | j + 1 => rit (xst (abst p j) p (136 * j) 17) 24
theorem abst_len (p : ByteArray) (j : Nat) : (abst p j).length = 25 := by
  cases j with
  | zero => rfl
  | succ j => simp only [abst, rit_len, xst_len]; induction j with
    | zero => rfl
    | succ j ih => simp only [abst, rit_len, xst_len]; exact ih
theorem strOf_size (xs : List Int) : (strOfNums xs).size = xs.length := by
  unfold strOfNums
  show (xs.map _).toArray.size = _
  rw [List.size_toArray, List.length_map]
def padT (t : ByteArray) : ByteArray := strOfNums (padL (nb t))
theorem padT_size (t : ByteArray) : (padT t).size = 136 * (t.size / 136 + 1) := by
  unfold padT
  rw [strOf_size, padL_len]
  unfold padRaw
  rw [List.length_append, List.length_append, List.length_replicate, nb_len]
  show t.size + 1 + _ = _
  omega
def digI (t : ByteArray) : ByteArray := (strOfNums (txl (abst (padT t) (t.size / 136 + 1)) 25)).extract 0 32
def impl_Digest.f (a0 : ByteArray) : Option ByteArray := if a0.size ≤ 140737488351232 then some (digI a0) else none
theorem tx_size (s : List Int) : (strOfNums (txl s 25)).size = 200 := by
  rw [strOf_size, txl_len]
def impl_Digest.T9 : Bool × List (List Nat × List Nat) := (true, [([], []), ([0], [0]), ([1], [1]), ([], []), ([], []), ([], []), ([5], [5]), ([4, 6], [4, 6]), ([3, 7], [3, 7]), ([2, 8], [2, 8]), ([0, 0, 1, 2, 3, 4, 5, 6, 7, 8, 9], [0]), ([10, 9, 8, 0, 1, 2, 3, 4, 5, 6, 7, 8, 9], [9, 10])])
def impl_Digest.B9 : List Nat := [0, 1, 3, 0, 0, 0, 32, 112, 248, 511, 1023, 2047]
theorem impl_Digest.tab9 : rtab .any (opsOf Tryd.f47 9) = impl_Digest.T9 := by kernel_rfl
theorem impl_Digest.bits9 : waitsOk impl_Digest.T9.2 impl_Digest.B9 = true := by kernel_rfl
set_option maxHeartbeats 8000000 in
set_option maxRecDepth 100000 in
theorem impl_Digest.calls (t : ByteArray) (r : ByteArray) (w : World) (hT : Tab w) (h : impl_Digest.f t = some r) :
    Calls Tryd.prog 47 #[.string t] w fun e w' => e = .returned (.string r) ∧ Below w.heap.size w w' := by
  unfold impl_Digest.f at h
  by_cases ht : t.size ≤ 140737488351232
  case neg => rw [if_neg ht] at h; exact absurd h (by simp)
  rw [if_pos ht] at h
  obtain rfl := Option.some.inj h
  clear h
  have HT := Aside0.mk hT
  have HTt := Aside0.mk ht
  have HB := Aside0.mk (Below.refl w.heap.size w)
  clear hT ht
  obtain ⟨pd, hpd⟩ : ∃ p_, p_ = padT t := ⟨_, rfl⟩
  have HPD := Aside0.mk hpd
  have HPS := Aside0.mk (show pd.size = 136 * (t.size / 136 + 1) by rw [hpd]; exact padT_size t)
  clear hpd
  go_enter Tryd.func47, Tryd.ntmps47
  go_wp2_with (first | (go_at_call 90; (with_reducible refine (impl_KeccakPad.calls t HTt.out _).mono ?_); rintro e w1_ ⟨rfl, hb⟩; have n0_ := Aside0.mk (below_then (by repeat (first | exact HB.out | apply Below.drew | apply pw_below_drewN)) (Below.size (by repeat (first | exact HB.out | apply Below.drew | apply pw_below_drewN))) hb); clear HB; have HB := n0_; clear n0_ hb; rw [show strOfNums (padL (nb t)) = pd from HPD.out.symm]) | ((with_reducible refine gate_dst (N := 4) rfl ?_); refine box_event ?hg (N := 4) ?hd (cs := ue (List.replicate 25 0)) (t := 97) ?hr ?_; (case hd => rfl); (case hg => rfl); (case hr => first | (go_simp; done) | (go_simp; rfl)); intro g hg w2_ hbox hb; have n0_ := Aside0.mk (below_then (by repeat (first | exact HB.out | apply Below.drew | apply pw_below_drewN)) (Below.size (by repeat (first | exact HB.out | apply Below.drew | apply pw_below_drewN))) hb); have GEs := Aside0.mk (show w.heap.size ≤ g by rw [hg]; exact Below.size (by repeat (first | exact HB.out | apply Below.drew | apply pw_below_drewN))); clear HB; have HB := n0_; have BKs := Aside0.mk hbox; clear n0_ hb hbox hg))
  go_loopg [5] (t.size / 136 + 2) (fun kq v5 w' => ∃ (j : Nat) (x : Int), v5 = .int .i64 x ∧ Aside0 (x = ((136 * j : Nat) : Int) ∧ j + kq = t.size / 136 + 2 ∧ j ≤ t.size / 136 + 1) ∧ Aside0 (w'.heap[g]? = some (.cells (ue (abst pd j)) 97 (0, 0))) ∧ Aside0 (Below w.heap.size w w'))
  case atStart => exact ⟨0, 0, rfl, ⟨rfl, by omega, by omega⟩, ⟨by (with_reducible repeat (first | refine blk_drewN ?_ _ | refine blk_drew ?_)); exact BKs.out⟩, ⟨(by repeat (first | exact HB.out | apply Below.drew | apply pw_below_drewN | refine Below.setCell ?_ GEs.out _))⟩⟩
  case round =>
    clear BKs HB
    obtain ⟨J, at_, rfl, HK1, BKs, HB⟩ := hrel
    cases gk with
    | zero => exact absurd HK1.out (by omega)
    | succ k1 =>
      by_cases c : J < t.size / 136 + 1
      · have c0 : decide (at_ < (pd.size : Int)) = true := decide_eq_true (by have := HK1.out; have := HPS.out; omega)
        have HC1 := Aside0.mk c
        clear c
        go_wp2
        go_loopg [15] 18 (fun kq v15 w' => ∃ (k : Nat) (x : Int), v15 = .int .i64 x ∧ Aside0 (x = (k : Int) ∧ k + kq = 18 ∧ k ≤ 17) ∧ Aside0 (w'.heap[g]? = some (.cells (ue (xst (abst pd J) pd (136 * J) k)) 97 (0, 0))) ∧ Aside0 (Below w.heap.size w w'))
        case atStart => exact ⟨0, 0, rfl, ⟨rfl, rfl, by decide⟩, ⟨by (with_reducible repeat (first | refine blk_drewN ?_ _ | refine blk_drew ?_)); exact BKs.out⟩, ⟨(by repeat (first | exact HB.out | apply Below.drew | apply pw_below_drewN | refine Below.setCell ?_ GEs.out _))⟩⟩
        case round =>
          clear BKs HB c0
          obtain ⟨K2, x, rfl, HK2, BKs, HB⟩ := hrel
          cases gk with
          | zero => exact absurd HK2.out (by omega)
          | succ k2 =>
            by_cases c : K2 < 17
            · have c0 : decide (x < 17) = true := decide_eq_true (by have := HK2.out; omega)
              have HC2 := Aside0.mk c
              clear c
              obtain ⟨a1, ha1, ea1⟩ : ∃ y_, wrap64 (8 * x) = y_ ∧ Aside0 (y_ = ((8 * K2 : Nat) : Int)) := ⟨_, rfl, ⟨by have := HK1.out; have := HC1.out; have := HK2.out; have := HC2.out; have := HPS.out; have := HTt.out; first | (unfold wrap64; omega) | (rw [Int.tmod_eq_emod_of_nonneg (by omega)]; omega)⟩⟩
              obtain ⟨a2, ha2, ea2⟩ : ∃ a2 : Nat, wrap64 (at_ + a1) = (a2 : Int) ∧ Aside0 (a2 = 136 * J + 8 * K2) := ⟨136 * J + 8 * K2, by have := HK1.out; have := HC1.out; have := HK2.out; have := HC2.out; have := HPS.out; have := HTt.out; have := ea1.out; unfold wrap64; omega, ⟨rfl⟩⟩
              have px : (0 ≤ x) = True := eq_true (by have := HK1.out; have := HC1.out; have := HK2.out; have := HC2.out; have := HPS.out; have := HTt.out; have := ea1.out; have := ea2.out; omega)
              have qx_25 : (x < 25) = True := eq_true (by have := HK1.out; have := HC1.out; have := HK2.out; have := HC2.out; have := HPS.out; have := HTt.out; have := ea1.out; have := ea2.out; omega)
              have hc0 : wr.cell? ⟨g, x.toNat, none⟩ = some (.int .u64 (ga (xst (abst pd J) pd (136 * J) K2) x.toNat)) := (blk_cell BKs.out _).trans (ue_get (by rw [xst_len, abst_len]; have := HK1.out; have := HC1.out; have := HK2.out; have := HC2.out; have := HPS.out; have := HTt.out; have := ea1.out; have := ea2.out; omega))
              have hfz : wr.frozen? ⟨g, x.toNat, none⟩ = false := blk_frozen BKs.out _
              have HW := Aside0.mk (wordAt_f pd a2 (by have := HK1.out; have := HC1.out; have := HK2.out; have := HC2.out; have := HPS.out; have := HTt.out; have := ea1.out; have := ea2.out; omega) (by have := HK1.out; have := HC1.out; have := HK2.out; have := HC2.out; have := HPS.out; have := HTt.out; have := ea1.out; have := ea2.out; omega))
              go_wp2
              refine start_ (n := 12) (S := fun w' => w'.cell? ⟨g, x.toNat, none⟩ = some (.int .u64 (ga (xst (abst pd J) pd (136 * J) K2) x.toNat))) (ds := [11]) #[false, false, false, false, false, false, false, false, false, false, false, false] (by kernel_rfl) rfl rfl (hc0) (fun hHeld => ?_)
              refine with_tabW impl_Digest.tab9 impl_Digest.bits9 (fun HT_ HW_ => ?_)
              refine pI 0 (some 18) HT_.out ?_
              refine pI 1 (some 19) HT_.out ?_
              refine pI 3 (some 21) HT_.out ?_
              refine pI 4 (some 22) HT_.out ?_
              refine pI 5 (some 23) HT_.out ?_
              refine pI 6 (some 24) HT_.out ?_
              refine pI 7 (some 25) HT_.out ?_
              refine tI1 2 (some 20) HT_.out HW_.out hHeld ?_
              refine oI 8 (some 26) HT_.out (fun K hK => ?_)
              refine goes_ Tryd.func91 (by kernel_rfl) rfl #[.string pd, .int .i64 (wrap64 (at_ + a1))] (by rfl) rfl rfl (by simp only [List.map_toArray, List.map_cons, List.map_nil]; rfl) ?_
              rw [ha2]
              with_reducible refine (impl_wordAt.calls 9 _ _ _ _ HW.out).mono ?_
              rintro e w3_ ⟨rfl, ⟨nd, rfl⟩⟩
              refine ⟨_, rfl, ?_⟩
              refine hK.out _ _ ((by exact hHeld)) (fun hHeld => ?_)
              clear hK K
              refine nO (some 26) ?_
              refine pI 9 (some 27) HT_.out ?_
              refine pI 10 (some 28) HT_.out ?_
              refine last_ (i := 11) (N := none) #[true, true, true, true, true, true, true, true, true, true, true, true] rfl rfl (one_of HT_.out (by kernel_rfl)) (by decide) (fun K hK => ?_)
              refine skip_ (w1 := ?_) (by rfl) rfl ?_ ?_
              rotate_left
              · go_simp
                rfl
              refine hK.out _ _ ?_
              clear hK K
              refine done_ (done_of HT_.out (by kernel_rfl)) ?_
              go_wp2
              go_roundg k2
              case measure => omega
              case rel => exact ⟨K2 + 1, _, rfl, ⟨by have := HK1.out; have := HC1.out; have := HK2.out; have := HC2.out; have := HPS.out; have := HTt.out; have := ea1.out; have := ea2.out; first | omega | (unfold wrap64; omega), by have := HK1.out; have := HC1.out; have := HK2.out; have := HC2.out; have := HPS.out; have := HTt.out; have := ea1.out; have := ea2.out; omega, by have := HK1.out; have := HC1.out; have := HK2.out; have := HC2.out; have := HPS.out; have := HTt.out; have := ea1.out; have := ea2.out; omega⟩, ⟨by (with_reducible repeat (first | refine blk_drewN ?_ _ | refine blk_drew ?_)); refine blk_put (cs := ue (xst (abst pd J) pd (136 * J) K2)) (by (with_reducible repeat (first | refine blk_drewN ?_ _ | refine blk_drew ?_)); exact BKs.out) x.toNat _ ?_; rw [ue_set]; simp only [xst]; rw [show x.toNat = K2 by have := HK1.out; have := HC1.out; have := HK2.out; have := HC2.out; have := HPS.out; have := HTt.out; have := ea1.out; have := ea2.out; omega, show a2 = 136 * J + 8 * K2 by have := HK1.out; have := HC1.out; have := HK2.out; have := HC2.out; have := HPS.out; have := HTt.out; have := ea1.out; have := ea2.out; omega]⟩, ⟨(by repeat (first | exact HB.out | apply Below.drew | apply pw_below_drewN | refine Below.setCell ?_ GEs.out _))⟩⟩
            · have c0 : decide (x < 17) = false := decide_eq_false (by have := HK2.out; omega)
              obtain rfl : K2 = 17 := by have := HK2.out; omega
              clear c HK2
              go_wp2_with (first | (go_at_call 92; (with_reducible refine (impl_rounds.calls g (xst (abst pd J) pd (136 * J) 17) (by rw [xst_len, abst_len]) w _ HT.out ?side1 GEs.out ?side2).mono ?_); (case side1 => exact (by repeat (first | exact HB.out | apply Below.drew | apply pw_below_drewN | refine Below.setCell ?_ GEs.out _))); (case side2 => ((with_reducible repeat (first | refine blk_drewN ?_ _ | refine blk_drew ?_)); exact BKs.out)); rintro e w4_ ⟨rfl, hk, hb⟩; have n0_ := Aside0.mk hk; have n1_ := Aside0.mk hb; clear BKs HB; have BKs := n0_; have HB := n1_; clear n0_ n1_ hk hb))
              go_roundg k1
              case measure => omega
              case rel => exact ⟨J + 1, _, rfl, ⟨by have := HK1.out; have := HC1.out; have := HPS.out; have := HTt.out; unfold wrap64; omega, by have := HK1.out; have := HC1.out; have := HPS.out; have := HTt.out; omega, by have := HK1.out; have := HC1.out; have := HPS.out; have := HTt.out; omega⟩, ⟨by (with_reducible repeat (first | refine blk_drewN ?_ _ | refine blk_drew ?_)); exact BKs.out⟩, ⟨(by repeat (first | exact HB.out | apply Below.drew | apply pw_below_drewN | refine Below.setCell ?_ GEs.out _))⟩⟩
      · have c0 : decide (at_ < (pd.size : Int)) = false := decide_eq_false (by have := HK1.out; have := HPS.out; omega)
        obtain rfl : J = t.size / 136 + 1 := by have := HK1.out; omega
        clear c
        have HX := Aside0.mk (tx_size (abst pd (t.size / 136 + 1)))
        obtain ⟨tx, htx⟩ : ∃ y_, y_ = strOfNums (txl (abst pd (t.size / 136 + 1)) 25) := ⟨_, rfl⟩
        rw [← htx] at HX
        have HXe := Aside0.mk htx
        clear htx
        have h32 : ((32 : Int) ≤ (tx.size : Int)) = True := eq_true (by have := HX.out; omega)
        go_wp2_with (first | (go_at_call 93; (with_reducible refine (impl_text.calls g (abst pd (t.size / 136 + 1)) (abst_len _ _) _ ?side1).mono ?_); (case side1 => ((with_reducible repeat (first | refine blk_drewN ?_ _ | refine blk_drew ?_)); exact BKs.out)); rintro e w4_ ⟨rfl, hb⟩; have n0_ := Aside0.mk (below_then (by repeat (first | exact HB.out | apply Below.drew | apply pw_below_drewN | refine Below.setCell ?_ GEs.out _)) (Below.size (by repeat (first | exact HB.out | apply Below.drew | apply pw_below_drewN | refine Below.setCell ?_ GEs.out _))) hb); clear BKs HB; have HB := n0_; clear n0_ hb; rw [← HXe.out]))
        go_ret
        exact ⟨by unfold digI; rw [← HPD.out, ← HXe.out]; first | done | rfl, (by repeat (first | exact HB.out | apply Below.drew | apply pw_below_drewN | refine Below.setCell ?_ GEs.out _))⟩
end Go.Proofs.YtkdmplfldfagnaaDoor.Kp
end
section
/- What is proved here: steps of Keccak as the program and the reference write it: what each function answers. No conditions but those that each theorem names. -/
namespace Go.Proofs.YtkdmplfldfagnaaDoor.Kp
open Go.RowKit Go.Proofs.YtkdmplfldfagnaaDoorW.PrintWords Go.Proofs.YtkdmplfldfagnaaDoorW.PrintLast Go.Proofs.YtkdmplfldfagnaaDoorW.PrintMore
set_option linter.unusedVariables false
set_option linter.unusedSimpArgs false
theorem ue_one (xs : List Int) : (ue xs).all (·.oneCell') = true := by
  unfold ue
  rw [Array.all_eq_true_iff_forall_mem]
  intro v hv
  obtain ⟨x, _, rfl⟩ := List.mem_map.1 (List.mem_toArray.1 hv)
  rfl
section
variable {P : Program} {ops : Array Oper} {rest : List Oper} {o : Oper} {a : Act} {w : World} {Q : Exit → Act → World → Prop}
theorem wpList_buildA (hg : o.guard = none) (t : TypeId) (parts : Array (Nat × Operand)) (ho : o.op = .build t parts) {cs : Array Value} (hb : P.built t (parts.map fun (i, x) => (i, a.eval x)).toList = some cs)
    (h : wpList P ops Q rest (a.put o.dst (.agg cs)) w) : wpList P ops Q (o :: rest) a w := by
  refine wpList_build hg t parts ho (by rw [hb]; rfl) ?_
  rw [hb]
  exact h
end
theorem built_l03Offsets : Tryd.prog.built 111 [(0, .int .u64 0), (1, .int .u64 1), (2, .int .u64 62), (3, .int .u64 28), (4, .int .u64 27), (5, .int .u64 36), (6, .int .u64 44), (7, .int .u64 6), (8, .int .u64 55), (9, .int .u64 20), (10, .int .u64 3), (11, .int .u64 10), (12, .int .u64 43), (13, .int .u64 25), (14, .int .u64 39), (15, .int .u64 41), (16, .int .u64 45), (17, .int .u64 15), (18, .int .u64 21), (19, .int .u64 8), (20, .int .u64 18), (21, .int .u64 2), (22, .int .u64 61), (23, .int .u64 56), (24, .int .u64 14)] = some (ue turnsL) := by kernel_rfl
set_option maxHeartbeats 4000000 in
set_option maxRecDepth 100000 in
theorem spec_l03Offsets.calls (w : World) : Calls Tryd.prog 116 #[] w fun e w' => e = .returned (.agg (ue turnsL)) ∧ Below w.heap.size w w' := by
  have HB := Aside0.mk (Below.refl w.heap.size w)
  go_enter Tryd.func116, Tryd.ntmps116
  go_wp2_with (first | ((with_reducible refine gate_dst (N := 0) rfl ?_); refine box_event ?hg (N := 0) ?hd (cs := ue (List.replicate 25 0)) (t := 111) ?hr ?_; (case hd => rfl); (case hg => rfl); (case hr => first | (go_simp; done) | (go_simp; rfl)); intro g hg w2_ hbox hb; have n0_ := Aside0.mk (below_then HB.out (Below.size HB.out) hb); have GEs := Aside0.mk (show w.heap.size ≤ g by rw [hg]; exact Nat.le_refl _); clear HB; have HB := n0_; have BKs := Aside0.mk hbox; clear n0_ hb hbox hg) | ((with_reducible refine gate_dst (N := 1) rfl ?_); refine wpList_buildA rfl 111 _ rfl (cs := ue turnsL) ?hb ?_; (case hb => exact built_l03Offsets)) | ((with_reducible refine gate_store (t := 111) (p := 0) rfl ?_); refine wpList_store_row rfl 111 _ _ rfl g (ue turnsL) rfl rfl 111 (ue (List.replicate 25 0)) BKs.out (by kernel_rfl) rfl (ue_one _) ?_; have n0_ := Aside0.mk (below_setRow HB.out GEs.out (ue turnsL)); have n1_ := Aside0.mk (setRow_heap _ g _ (ue turnsL) _ _ BKs.out); clear HB BKs; have HB := n0_; have BKs := n1_; clear n0_ n1_))
  refine bodyPost_ret (results_cell_row rfl _ _ g 111 (ue turnsL) (0, 0) _ rfl (by (with_reducible repeat (first | refine blk_drewN ?_ _ | refine blk_drew ?_)); exact BKs.out) Tryd.underlying111 rfl (by kernel_rfl)) rfl ?_
  exact ⟨rfl, (by repeat (first | exact HB.out | apply Below.drew | apply pw_below_drewN | refine Below.setCell ?_ GEs.out _))⟩
theorem built_l03Rounds : Tryd.prog.built 113 [(0, .int .u64 1), (1, .int .u64 32898), (2, .int .u64 9223372036854808714), (3, .int .u64 9223372039002292224), (4, .int .u64 32907), (5, .int .u64 2147483649), (6, .int .u64 9223372039002292353), (7, .int .u64 9223372036854808585), (8, .int .u64 138), (9, .int .u64 136), (10, .int .u64 2147516425), (11, .int .u64 2147483658), (12, .int .u64 2147516555), (13, .int .u64 9223372036854775947), (14, .int .u64 9223372036854808713), (15, .int .u64 9223372036854808579), (16, .int .u64 9223372036854808578), (17, .int .u64 9223372036854775936), (18, .int .u64 32778), (19, .int .u64 9223372039002259466), (20, .int .u64 9223372039002292353), (21, .int .u64 9223372036854808704), (22, .int .u64 2147483649), (23, .int .u64 9223372039002292232)] = some (ue rcL) := by kernel_rfl
set_option maxHeartbeats 4000000 in
set_option maxRecDepth 100000 in
theorem spec_l03Rounds.calls (w : World) : Calls Tryd.prog 117 #[] w fun e w' => e = .returned (.agg (ue rcL)) ∧ Below w.heap.size w w' := by
  have HB := Aside0.mk (Below.refl w.heap.size w)
  go_enter Tryd.func117, Tryd.ntmps117
  go_wp2_with (first | ((with_reducible refine gate_dst (N := 0) rfl ?_); refine box_event ?hg (N := 0) ?hd (cs := ue (List.replicate 24 0)) (t := 113) ?hr ?_; (case hd => rfl); (case hg => rfl); (case hr => first | (go_simp; done) | (go_simp; rfl)); intro g hg w2_ hbox hb; have n0_ := Aside0.mk (below_then HB.out (Below.size HB.out) hb); have GEs := Aside0.mk (show w.heap.size ≤ g by rw [hg]; exact Nat.le_refl _); clear HB; have HB := n0_; have BKs := Aside0.mk hbox; clear n0_ hb hbox hg) | ((with_reducible refine gate_dst (N := 1) rfl ?_); refine wpList_buildA rfl 113 _ rfl (cs := ue rcL) ?hb ?_; (case hb => exact built_l03Rounds)) | ((with_reducible refine gate_store (t := 113) (p := 0) rfl ?_); refine wpList_store_row rfl 113 _ _ rfl g (ue rcL) rfl rfl 113 (ue (List.replicate 24 0)) BKs.out (by kernel_rfl) rfl (ue_one _) ?_; have n0_ := Aside0.mk (below_setRow HB.out GEs.out (ue rcL)); have n1_ := Aside0.mk (setRow_heap _ g _ (ue rcL) _ _ BKs.out); clear HB BKs; have HB := n0_; have BKs := n1_; clear n0_ n1_))
  refine bodyPost_ret (results_cell_row rfl _ _ g 113 (ue rcL) (0, 0) _ rfl (by (with_reducible repeat (first | refine blk_drewN ?_ _ | refine blk_drew ?_)); exact BKs.out) Tryd.underlying113 rfl (by kernel_rfl)) rfl ?_
  exact ⟨rfl, (by repeat (first | exact HB.out | apply Below.drew | apply pw_below_drewN | refine Below.setCell ?_ GEs.out _))⟩
end Go.Proofs.YtkdmplfldfagnaaDoor.Kp
end
section
namespace Go.Proofs.YtkdmplfldfagnaaDoor.Kp
open Go.RowKit Go.Proofs.YtkdmplfldfagnaaDoorW.PrintWords Go.Proofs.YtkdmplfldfagnaaDoorW.PrintLast Go.Proofs.YtkdmplfldfagnaaDoorW.PrintMore
attribute [local go_sem] max2_int min2_int max_two min_two max_three min_three max_four min_four   -- for this text's walks alone
set_option linter.unusedVariables false
set_option linter.unusedSimpArgs false
/-! ### spec_l03Turn: function 135 -/
def spec_l03Turn.f (a0 : Int) (a1 : Int) : Option (Int) := if 0 ≤ a1 then (if 0 ≤ (IntKind.u64.wrap (64 - a1)) then (some (Go.bits .or .u64 (shl .u64 a0 a1) (shr .u64 a0 (IntKind.u64.wrap (64 - a1))))) else (none)) else (none)
set_option maxHeartbeats 8000000 in
set_option maxRecDepth 100000 in
theorem spec_l03Turn.calls (a0 : Int) (a1 : Int) (r : Int) (w : World) (h : spec_l03Turn.f a0 a1 = some r) :
  Calls Tryd.prog 135 #[.int .u64 a0, .int .u64 a1] w fun e w' => e = .returned (.int .u64 r) ∧ Drawn0 w w' := by
 have H : (if 0 ≤ a1 then (if 0 ≤ (IntKind.u64.wrap (64 - a1)) then (some (Go.bits .or .u64 (shl .u64 a0 a1) (shr .u64 a0 (IntKind.u64.wrap (64 - a1))))) else (none)) else (none)) = some r := h
 clear h
 by_cases c3 : 0 ≤ a1
 ·rw [if_pos c3] at H
  have c3b0 := eq_true c3
  have c3b1 : decide (0 ≤ a1) = true := decide_eq_true c3
  clear c3
  obtain ⟨ji4, hji4⟩ : ∃ j_ : Int, (shl .u64 a0 a1) = j_ := ⟨_, rfl⟩
  replace H : (if 0 ≤ (IntKind.u64.wrap (64 - a1)) then (some (Go.bits .or .u64 (ji4) (shr .u64 a0 (IntKind.u64.wrap (64 - a1))))) else (none)) = some r := by first | (rw [hji4] at H; exact H) | (simp only [hji4] at H ⊢; exact H)
  have hji4_ : (IntKind.u64.wrap (a0 * 2 ^ min a1.toNat 64)) = ji4 := hji4
  have hji4z : a1 ≤ 64 → (IntKind.u64.wrap (a0 * 2 ^ a1.toNat)) = ji4 := shl_small hji4
  obtain ⟨ji5, hji5⟩ : ∃ j_ : Int, (IntKind.u64.wrap (64 - a1)) = j_ := ⟨_, rfl⟩
  replace H : (if 0 ≤ (ji5) then (some (Go.bits .or .u64 (ji4) (shr .u64 a0 (ji5)))) else (none)) = some r := by first | (rw [hji5] at H; exact H) | (simp only [hji5] at H ⊢; exact H)
  by_cases c6 : 0 ≤ (ji5)
  ·rw [if_pos c6] at H
   have c6b0 := eq_true c6
   have c6b1 : decide (0 ≤ (ji5)) = true := decide_eq_true c6
   clear c6
   obtain ⟨ji7, hji7⟩ : ∃ j_ : Int, (shr .u64 a0 (ji5)) = j_ := ⟨_, rfl⟩
   replace H : (some (Go.bits .or .u64 (ji4) (ji7))) = some r := by first | (rw [hji7] at H; exact H) | (simp only [hji7] at H ⊢; exact H)
   have hji7_ : (a0 / 2 ^ min (ji5).toNat 64) = ji7 := hji7
   have hji7z : (ji5) ≤ 64 → (a0 / 2 ^ (ji5).toNat) = ji7 := shr_small hji7
   obtain rfl := Option.some.inj H
   go_enter Tryd.func135, Tryd.ntmps135
   go_wp2
   go_ret
   exact ⟨by first | rfl | (simp; done) | (simp only [← hji4, ← hji5, ← hji7] <;> (first | rfl | simp)) | (simp [*]; done), by repeat (first | exact Drawn0.refl _ | apply Drawn0.step)⟩
  ·rw [if_neg c6] at H
   exact absurd H (by simp)
 ·rw [if_neg c3] at H
  exact absurd H (by simp)
end Go.Proofs.YtkdmplfldfagnaaDoor.Kp
end
