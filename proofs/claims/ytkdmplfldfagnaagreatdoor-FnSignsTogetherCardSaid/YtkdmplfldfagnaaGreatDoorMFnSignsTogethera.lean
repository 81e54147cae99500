/- What is proved here: part 1 of 5 of the proof of the given statement FnSignsTogether: the contracts of the Go functions that it reaches, the plain facts on lists and numbers, and (in the last part) the statement itself. No conditions beyond the given ones. -/
import Derived.Test.YtkdmplfldfagnaaGreatDoorProg
import Derived.Below
import Derived.Deep.Draws
import Derived.Deep.AppendLies
import Derived.Maps.AppendAt
import Derived.OwnWalk
import Derived.Laws.BytesArg
import Derived.Laws.MakeOwn
import Derived.Laws.OwnMore
import Derived.Deep.OwnRows
import Derived.Tactics
import Derived.Lib.ConvBytes
import Derived.Laws.Slices
import Derived.WalkKit
import Derived.KernelRfl
import Derived.RowKit3
import Derived.Deep.LoopGhost
import Derived.Deep.QuietTactic
import Derived.BigQuiet
import Derived.WideLaws
import Derived.Deep.DeepCutAuto
import Derived.Deep.CutBlock
import Derived.Deep.RegionHeld3
import Derived.Laws.Rows
import Derived.Lib.AppendStr
import Derived.ArgAppend
import Derived.Laws.IdiomCopy
import Derived.OrdersHeld
import Derived.Laws.BitsLemmas
import Derived.RowKit
import Derived.Test.YtkdmplfldfagnaaGreatDoorMFnSignsTogetherwWords
import Derived.Test.YtkdmplfldfagnaaGreatDoorMFnSignsTogetherwLast
import Derived.Test.YtkdmplfldfagnaaGreatDoorMFnSignsTogetherwTab
import Derived.Test.YtkdmplfldfagnaaGreatDoorMFnSignsTogetherwFour
import Derived.Test.YtkdmplfldfagnaaGreatDoorMFnSignsTogetherwQPut
import Derived.Test.YtkdmplfldfagnaaGreatDoorMFnSignsTogetherwApart
import Derived.Test.YtkdmplfldfagnaaGreatDoorMFnSignsTogetherwArr
import Derived.Test.YtkdmplfldfagnaaGreatDoorMFnSignsTogetherwZeros
import Derived.Test.YtkdmplfldfagnaaGreatDoorMFnSignsTogetherwFoot
import Derived.Test.YtkdmplfldfagnaaGreatDoorMFnSignsTogetherwKept
import Derived.Test.YtkdmplfldfagnaaGreatDoorMFnSignsTogetherwShare
import Derived.Test.YtkdmplfldfagnaaGreatDoorMFnSignsTogetherwN
import Derived.Test.YtkdmplfldfagnaaGreatDoorMFnSignsTogetherwFootNe
import Derived.Test.YtkdmplfldfagnaaGreatDoorMFnSignsTogetherwAt
import Derived.Test.YtkdmplfldfagnaaGreatDoorMFnSignsTogetherwEqStruct
import Derived.Test.YtkdmplfldfagnaaGreatDoorMFnSignsTogetherwRepsOne
import Derived.Test.YtkdmplfldfagnaaGreatDoorMFnSignsTogetherwInv
import Derived.Test.YtkdmplfldfagnaaGreatDoorMFnSignsTogetherwInvWords
import Derived.Test.YtkdmplfldfagnaaGreatDoorMFnSignsTogetherwGuard
import Derived.Test.YtkdmplfldfagnaaGreatDoorMFnSignsTogetherwNEv
import Derived.Test.YtkdmplfldfagnaaGreatDoorMFnSignsTogetherwMore
import Derived.Test.YtkdmplfldfagnaaGreatDoorMFnSignsTogetherwSlim
import Derived.Shelf.Strings.Repeat
import Derived.Laws.CopyOwn

section
namespace Go.Proofs.YtkdmplfldfagnaaGreatDoor.Pf
open Go.RowKit Go.Proofs.YtkdmplfldfagnaaGreatDoorW.PrintWords Go.Proofs.YtkdmplfldfagnaaGreatDoorW.PrintLast Go.Proofs.YtkdmplfldfagnaaGreatDoorW.PrintMore
attribute [local go_sem] max2_int min2_int max_two min_two max_three min_three max_four min_four   -- for this text's walks alone
set_option linter.unusedVariables false
set_option linter.unusedSimpArgs false
def errW : Option Int → Value
  | none => .nilIface
  | some c => .iface 0 (.int .i64 c)
theorem errW_none : errW none = .nilIface := rfl
theorem errW_some (c : Int) : errW (some c) = .iface 0 (.int .i64 c) := rfl
theorem info3 : (Tryz.prog.info? 3).map (fun i => (i.zero, i.size, i.bytes)) = some (some (.int .i64 0), 1, 8) := by kernel_rfl
theorem info5 : (Tryz.prog.info? 5).map (fun i => (i.zero, i.size, i.bytes)) = some (some (.int .u8 0), 1, 1) := by kernel_rfl
theorem info28 : (Tryz.prog.info? 28).map (fun i => (i.zero, i.size, i.bytes)) = some (some (.agg #[(.int .i64 0), (.int .i64 0), (.bool false)]), 3, 24) := by kernel_rfl
structure S28 where
  f0 : Int
  f1 : Int
  f2 : Bool
def z28 : S28 := ⟨(0 : Int), (0 : Int), false⟩
def k28 : Kd S28 := Kd.iso (Kd.pair (Kd.int .i64) (Kd.pair (Kd.int .i64) Kd.bool)) (fun x : S28 => (x.f0, x.f1, x.f2))
theorem k28_open {w : World} {x : S28} {cs : List Value} (h : k28.K w x cs) : cs = [.int .i64 x.f0, .int .i64 x.f1, .bool x.f2] := by
  obtain ⟨_, _, rfl, rfl, ⟨_, _, rfl, rfl, rfl⟩⟩ := h
  exact rfl
theorem k28_mkM (w : World) (base : Nat) (ok : Nat → Prop) (x : S28)  : k28.M w base ok x [.int .i64 x.f0, .int .i64 x.f1, .bool x.f2] := ⟨[.int .i64 x.f0], [.int .i64 x.f1, .bool x.f2], rfl, rfl, ⟨[.int .i64 x.f1], [.bool x.f2], rfl, rfl, rfl⟩⟩
def rd_T28 (xs : List S28) (i : Int) : S28 := xs.getD i.toNat z28
theorem at_T28 {w : World} {A : Option Addr} {n : Nat} {xs : List S28} (h : Kd.C k28 w A n xs) (i : Int) (h0 : 0 ≤ i) (h1 : i < n) : ∃ ad , A = some ad ∧ w.cell? (ad.add (i.toNat * 3)) = some (.int .i64 (rd_T28 xs i).f0) ∧ w.cell? ⟨(ad.add (i.toNat * 3)).block, (ad.add (i.toNat * 3)).off + 1, none⟩ = some (.int .i64 (rd_T28 xs i).f1) ∧ w.cell? ⟨(ad.add (i.toNat * 3)).block, (ad.add (i.toNat * 3)).off + 2, none⟩ = some (.bool (rd_T28 xs i).f2) := by
  obtain ⟨ad, c, e, _, hK, hc0⟩ := Kd.C_get h z28 i h0 h1
  have hc : ∀ j u, c[j]? = some u → w.cell? (ad.add (i.toNat * 3 + j)) = some u := hc0
  obtain rfl := k28_open hK
  exact ⟨ad, e, hc 0 _ rfl, by rw [← add_field _ _ 1 (by omega)]; exact hc 1 _ rfl, by rw [← add_field _ _ 2 (by omega)]; exact hc 2 _ rfl⟩
theorem eqA28 (d : Nat) (w : World) (x0 y0 : Int) (x1 y1 : Int) (x2 y2 : Bool) :
    (Op.equalIn (d + 2) 28 (.agg #[.int .i64 x0, .int .i64 x1, .bool x2]) (.agg #[.int .i64 y0, .int .i64 y1, .bool y2])).run Tryz.prog w = .ok (x0 == y0 && (x1 == y1 && (x2 == y2))) w := by
  refine eqA_of Tryz.underlying28 (by kernel_rfl) ?_
  refine eqf_cons (by rfl) (by go_simp; rfl) (by go_simp; rfl) (by go_simp) ?_
  refine eqf_cons (by rfl) (by go_simp; rfl) (by go_simp; rfl) (by go_simp) ?_
  exact eqf_last (by rfl) (by go_simp; rfl) (by go_simp; rfl) (by go_simp)
def laws_big.f (l0 : List Int) : Option (Bool) := some (decide ((l0.length : Int) > 1048576))
set_option maxHeartbeats 8000000 in
set_option maxRecDepth 100000 in
theorem laws_big.calls (A0 : Option Addr) (c0 : Nat) (l0 : List Int) (r : Bool) (w : World) (hr0 : Kd.C (Kd.int .u8) w A0 l0.length l0) (hc0 : l0.length ≤ c0) (h : laws_big.f l0 = some r) :
  Calls Tryz.prog 6 #[.slice A0 l0.length c0] w fun e w' => e = .returned (.bool r) ∧ Drawn0 w w' := by
 have HR0 := Aside0.mk hr0
 have HC0 := Aside0.mk hc0
 clear hr0 hc0
 have H : (some (decide ((l0.length : Int) > 1048576))) = some r := h
 clear h
 obtain rfl := Option.some.inj H
 go_enter Tryz.func6, Tryz.ntmps6
 go_wp2
 go_ret
 exact ⟨rS, rD⟩
def impl_Base.f  : Option (Int × Int × Bool) := some (8445, 859, false)
set_option maxHeartbeats 8000000 in
set_option maxRecDepth 100000 in
theorem impl_Base.calls  (r1 : Int) (r2 : Int) (r3 : Bool) (w : World) (h : impl_Base.f  = some (r1, r2, r3)) :
  Calls Tryz.prog 20 #[] w fun e w' => e = .returned (.agg #[.int .i64 r1, .int .i64 r2, .bool r3]) ∧ Below w.heap.size w w' := by
 have hu28 := Tryz.underlying28
 have HB := Aside0.mk (Below.refl w.heap.size w)
 have H : (some (8445, 859, false)) = some (r1, r2, r3) := h
 clear h
 simp only [Option.some.injEq, Prod.mk.injEq] at H
 obtain ⟨rfl, rfl, rfl⟩ := H
 go_enter Tryz.func20, Tryz.ntmps20
 go_wp2_with (first | (refine gB 0 #[.int .i64 0, .int .i64 0, .bool false] 28 ?_; intro gb101 hg w1 BK101 hb; have GW101 := bG HB hg; replace HB := bS HB hb; clear hb hg; obtain ⟨hcz2_0, hcz2_1, hcz2_2, hfz2_0, hfz2_1, hfz2_2⟩ := bK3 (w := w1) BK101))
 refine rC gb101 28 #[.int .i64 8445, .int .i64 859, .bool false] (bU BK101) Tryz.underlying28 ?_
 exact ⟨rR, bZ HB⟩
def impl_remainder.f (a0 : Int) (a1 : Int) : Option (Int) := if a1 = 0 then (none) else (if (Int.tmod a0 a1) < 0 then (some (wrap64 ((Int.tmod a0 a1) + a1))) else (some (Int.tmod a0 a1)))
set_option maxHeartbeats 8000000 in
set_option maxRecDepth 100000 in
theorem impl_remainder.calls (a0 : Int) (a1 : Int) (r : Int) (w : World) (h : impl_remainder.f a0 a1 = some r) :
  Calls Tryz.prog 86 #[.int .i64 a0, .int .i64 a1] w fun e w' => e = .returned (.int .i64 r) ∧ Drawn0 w w' := by
 have H : (if a1 = 0 then (none) else (if (Int.tmod a0 a1) < 0 then (some (wrap64 ((Int.tmod a0 a1) + a1))) else (some (Int.tmod a0 a1)))) = some r := h
 clear h
 by_cases c3 : a1 = 0
 ·rw [if_pos c3] at H
  exact absurd H (by simp)
 ·rw [if_neg c3] at H
  have c3b0 : (a1 == 0) = false := beq_eq_false_iff_ne.mpr c3
  have c3b1 : (a1 != 0) = true := bne_iff_ne.mpr c3
  by_cases c4 : (Int.tmod a0 a1) < 0
  ·rw [if_pos c4] at H
   have c4b0 := decide_eq_true c4
   clear c4
   obtain rfl := Option.some.inj H
   go_enter Tryz.func86, Tryz.ntmps86
   go_wp2
   go_ret
   exact ⟨rS, rD⟩
  ·rw [if_neg c4] at H
   have c4b0 := decide_eq_false c4
   clear c4
   obtain rfl := Option.some.inj H
   go_enter Tryz.func86, Tryz.ntmps86
   go_wp2
   go_ret
   exact ⟨rS, rD⟩
def impl_FpOf.f (a0 : Int) : Option (Int) := (impl_remainder.f a0 12107).bind fun t102 => (some t102)
set_option maxHeartbeats 8000000 in
set_option maxRecDepth 100000 in
theorem impl_FpOf.calls (a0 : Int) (r : Int) (w : World) (h : impl_FpOf.f a0 = some r) :
  Calls Tryz.prog 56 #[.int .i64 a0] w fun e w' => e = .returned (.int .i64 r) ∧ Drawn0 w w' := by
 have H : ((impl_remainder.f a0 12107).bind fun t102 => (some t102)) = some r := h
 clear h
 replace H := Option.bind_eq_some_iff.mp H
 obtain ⟨t102, A20, H⟩ := H
 have A2 := Aside0.mk A20
 clear A20
 obtain rfl := Option.some.inj H
 go_enter Tryz.func56, Tryz.ntmps56
 go_wp2_with (first | (refine gC (some 4) Tryz.func86 #[.int .i64 a0, .int .i64 12107] ?_; (with_reducible refine (impl_remainder.calls a0 12107 t102 _ A2.out).mono ?_); rintro e w' ⟨rfl, ⟨nd, rfl⟩⟩; refine ⟨_, rfl, ?_⟩))
 go_ret
 exact ⟨rS, rD⟩
def impl_FpMul.f (a0 : Int) (a1 : Int) : Option (Int) := (impl_FpOf.f a0).bind fun t103 => ((impl_FpOf.f a1).bind fun t104 => ((impl_FpOf.f (wrap64 (t103 * t104))).bind fun t105 => (some t105)))
set_option maxHeartbeats 8000000 in
set_option maxRecDepth 100000 in
theorem impl_FpMul.calls (a0 : Int) (a1 : Int) (r : Int) (w : World) (h : impl_FpMul.f a0 a1 = some r) :
  Calls Tryz.prog 88 #[.int .i64 a0, .int .i64 a1] w fun e w' => e = .returned (.int .i64 r) ∧ Drawn0 w w' := by
 have H : ((impl_FpOf.f a0).bind fun t103 => ((impl_FpOf.f a1).bind fun t104 => ((impl_FpOf.f (wrap64 (t103 * t104))).bind fun t105 => (some t105)))) = some r := h
 clear h
 replace H := Option.bind_eq_some_iff.mp H
 obtain ⟨t103, A30, H⟩ := H
 have A3 := Aside0.mk A30
 clear A30
 replace H := Option.bind_eq_some_iff.mp H
 obtain ⟨t104, A40, H⟩ := H
 have A4 := Aside0.mk A40
 clear A40
 replace H := Option.bind_eq_some_iff.mp H
 obtain ⟨t105, A50, H⟩ := H
 have A5 := Aside0.mk A50
 clear A50
 obtain rfl := Option.some.inj H
 go_enter Tryz.func88, Tryz.ntmps88
 go_wp2_with (first | (refine gC (some 6) Tryz.func56 #[.int .i64 a0] ?_; (with_reducible refine (impl_FpOf.calls a0 t103 _ A3.out).mono ?_); rintro e w' ⟨rfl, ⟨nd, rfl⟩⟩; refine ⟨_, rfl, ?_⟩) | (refine gC (some 8) Tryz.func56 #[.int .i64 a1] ?_; (with_reducible refine (impl_FpOf.calls a1 t104 _ A4.out).mono ?_); rintro e w' ⟨rfl, ⟨nd, rfl⟩⟩; refine ⟨_, rfl, ?_⟩) | (refine gC (some 10) Tryz.func56 #[.int .i64 (wrap64 (t103 * t104))] ?_; (with_reducible refine (impl_FpOf.calls (wrap64 (t103 * t104)) t105 _ A5.out).mono ?_); rintro e w' ⟨rfl, ⟨nd, rfl⟩⟩; refine ⟨_, rfl, ?_⟩))
 go_ret
 exact ⟨rS, rD⟩
def impl_FpAdd.f (a0 : Int) (a1 : Int) : Option (Int) := (impl_FpOf.f a0).bind fun t106 => ((impl_FpOf.f a1).bind fun t107 => ((impl_FpOf.f (wrap64 (t106 + t107))).bind fun t108 => (some t108)))
set_option maxHeartbeats 8000000 in
set_option maxRecDepth 100000 in
theorem impl_FpAdd.calls (a0 : Int) (a1 : Int) (r : Int) (w : World) (h : impl_FpAdd.f a0 a1 = some r) :
  Calls Tryz.prog 98 #[.int .i64 a0, .int .i64 a1] w fun e w' => e = .returned (.int .i64 r) ∧ Drawn0 w w' := by
 have H : ((impl_FpOf.f a0).bind fun t106 => ((impl_FpOf.f a1).bind fun t107 => ((impl_FpOf.f (wrap64 (t106 + t107))).bind fun t108 => (some t108)))) = some r := h
 clear h
 replace H := Option.bind_eq_some_iff.mp H
 obtain ⟨t106, A30, H⟩ := H
 have A3 := Aside0.mk A30
 clear A30
 replace H := Option.bind_eq_some_iff.mp H
 obtain ⟨t107, A40, H⟩ := H
 have A4 := Aside0.mk A40
 clear A40
 replace H := Option.bind_eq_some_iff.mp H
 obtain ⟨t108, A50, H⟩ := H
 have A5 := Aside0.mk A50
 clear A50
 obtain rfl := Option.some.inj H
 go_enter Tryz.func98, Tryz.ntmps98
 go_wp2_with (first | (refine gC (some 6) Tryz.func56 #[.int .i64 a0] ?_; (with_reducible refine (impl_FpOf.calls a0 t106 _ A3.out).mono ?_); rintro e w' ⟨rfl, ⟨nd, rfl⟩⟩; refine ⟨_, rfl, ?_⟩) | (refine gC (some 8) Tryz.func56 #[.int .i64 a1] ?_; (with_reducible refine (impl_FpOf.calls a1 t107 _ A4.out).mono ?_); rintro e w' ⟨rfl, ⟨nd, rfl⟩⟩; refine ⟨_, rfl, ?_⟩) | (refine gC (some 10) Tryz.func56 #[.int .i64 (wrap64 (t106 + t107))] ?_; (with_reducible refine (impl_FpOf.calls (wrap64 (t106 + t107)) t108 _ A5.out).mono ?_); rintro e w' ⟨rfl, ⟨nd, rfl⟩⟩; refine ⟨_, rfl, ?_⟩))
 go_ret
 exact ⟨rS, rD⟩
def impl_curveAt.f (a0 : Int) : Option (Int) := (impl_FpMul.f a0 a0).bind fun t109 => ((impl_FpMul.f t109 a0).bind fun t110 => ((impl_FpAdd.f t110 a0).bind fun t111 => (some t111)))
set_option maxHeartbeats 8000000 in
set_option maxRecDepth 100000 in
theorem impl_curveAt.calls (a0 : Int) (r : Int) (w : World) (h : impl_curveAt.f a0 = some r) :
  Calls Tryz.prog 58 #[.int .i64 a0] w fun e w' => e = .returned (.int .i64 r) ∧ Drawn0 w w' := by
 have H : ((impl_FpMul.f a0 a0).bind fun t109 => ((impl_FpMul.f t109 a0).bind fun t110 => ((impl_FpAdd.f t110 a0).bind fun t111 => (some t111)))) = some r := h
 clear h
 replace H := Option.bind_eq_some_iff.mp H
 obtain ⟨t109, A20, H⟩ := H
 have A2 := Aside0.mk A20
 clear A20
 replace H := Option.bind_eq_some_iff.mp H
 obtain ⟨t110, A30, H⟩ := H
 have A3 := Aside0.mk A30
 clear A30
 replace H := Option.bind_eq_some_iff.mp H
 obtain ⟨t111, A40, H⟩ := H
 have A4 := Aside0.mk A40
 clear A40
 obtain rfl := Option.some.inj H
 go_enter Tryz.func58, Tryz.ntmps58
 go_wp2_with (first | (refine gC (some 5) Tryz.func88 #[.int .i64 a0, .int .i64 a0] ?_; (with_reducible refine (impl_FpMul.calls a0 a0 t109 _ A2.out).mono ?_); rintro e w' ⟨rfl, ⟨nd, rfl⟩⟩; refine ⟨_, rfl, ?_⟩) | (refine gC (some 7) Tryz.func88 #[.int .i64 t109, .int .i64 a0] ?_; (with_reducible refine (impl_FpMul.calls t109 a0 t110 _ A3.out).mono ?_); rintro e w' ⟨rfl, ⟨nd, rfl⟩⟩; refine ⟨_, rfl, ?_⟩) | (refine gC (some 9) Tryz.func98 #[.int .i64 t110, .int .i64 a0] ?_; (with_reducible refine (impl_FpAdd.calls t110 a0 t111 _ A4.out).mono ?_); rintro e w' ⟨rfl, ⟨nd, rfl⟩⟩; refine ⟨_, rfl, ?_⟩))
 go_ret
 exact ⟨rS, rD⟩
def impl_FpOk.f (a0 : Int) : Option (Bool) := if a0 ≥ 0 then (some (decide (a0 < 12107))) else (some false)
set_option maxHeartbeats 8000000 in
set_option maxRecDepth 100000 in
theorem impl_FpOk.calls (a0 : Int) (r : Bool) (w : World) (h : impl_FpOk.f a0 = some r) :
  Calls Tryz.prog 87 #[.int .i64 a0] w fun e w' => e = .returned (.bool r) ∧ Drawn0 w w' := by
 have H : (if a0 ≥ 0 then (some (decide (a0 < 12107))) else (some false)) = some r := h
 clear h
 by_cases c2 : a0 ≥ 0
 ·rw [if_pos c2] at H
  have c2b0 := decide_eq_true c2
  clear c2
  obtain rfl := Option.some.inj H
  go_enter Tryz.func87, Tryz.ntmps87
  go_wp2
  go_ret
  exact ⟨rS, rD⟩
 ·rw [if_neg c2] at H
  have c2b0 := decide_eq_false c2
  clear c2
  obtain rfl := Option.some.inj H
  go_enter Tryz.func87, Tryz.ntmps87
  go_wp2
  go_ret
  exact ⟨rS, rD⟩
def impl_PointOk.f (a0_0 : Int) (a0_1 : Int) (a0_2 : Bool) : Option (Bool) := if a0_2 = true then (if a0_0 = 0 then (some (a0_1 == 0)) else (some false)) else ((impl_FpOk.f a0_0).bind fun t113 => (if t113 = true then ((impl_FpOk.f a0_1).bind fun t114 => (if t114 = true then ((impl_FpMul.f a0_1 a0_1).bind fun t115 => ((impl_curveAt.f a0_0).bind fun t116 => (some (t115 == t116)))) else (some false))) else (some false)))
set_option maxHeartbeats 8000000 in
set_option maxRecDepth 100000 in
theorem impl_PointOk.calls (a0_0 : Int) (a0_1 : Int) (a0_2 : Bool) (r : Bool) (w : World) (h : impl_PointOk.f a0_0 a0_1 a0_2 = some r) :
  Calls Tryz.prog 47 #[.agg #[.int .i64 a0_0, .int .i64 a0_1, .bool a0_2]] w fun e w' => e = .returned (.bool r) ∧ Below w.heap.size w w' := by
 have hu28 := Tryz.underlying28
 have HB := Aside0.mk (Below.refl w.heap.size w)
 have H : (if a0_2 = true then (if a0_0 = 0 then (some (a0_1 == 0)) else (some false)) else ((impl_FpOk.f a0_0).bind fun t113 => (if t113 = true then ((impl_FpOk.f a0_1).bind fun t114 => (if t114 = true then ((impl_FpMul.f a0_1 a0_1).bind fun t115 => ((impl_curveAt.f a0_0).bind fun t116 => (some (t115 == t116)))) else (some false))) else (some false)))) = some r := h
 clear h
 by_cases c2 : a0_2 = true
 ·subst c2
  rw [if_pos rfl] at H
  by_cases c3 : a0_0 = 0
  ·rw [if_pos c3] at H
   have c3b0 : (a0_0 == 0) = true := beq_iff_eq.mpr c3
   have c3b1 : (a0_0 != 0) = false := bne_eq_false_iff_eq.mpr c3
   clear c3
   obtain rfl := Option.some.inj H
   go_enter Tryz.func47, Tryz.ntmps47
   go_wp2_with (first | (refine gB 1 #[.int .i64 a0_0, .int .i64 a0_1, .bool true] 28 ?_; intro gb112 hg w4 BK112 hb; have GW112 := bG HB hg; replace HB := bS HB hb; clear hb hg; obtain ⟨hcz5_0, hcz5_1, hcz5_2, hfz5_0, hfz5_1, hfz5_2⟩ := bK3 (w := w4) BK112))
   repeat (go_quiet (first | (refine gB 1 #[.int .i64 a0_0, .int .i64 a0_1, .bool true] 28 ?_; intro gb112 hg w4 BK112 hb; have GW112 := bG HB hg; replace HB := bS HB hb; clear hb hg; obtain ⟨hcz5_0, hcz5_1, hcz5_2, hfz5_0, hfz5_1, hfz5_2⟩ := bK3 (w := w4) BK112)); try go_wp2_with (first | (refine gB 1 #[.int .i64 a0_0, .int .i64 a0_1, .bool true] 28 ?_; intro gb112 hg w4 BK112 hb; have GW112 := bG HB hg; replace HB := bS HB hb; clear hb hg; obtain ⟨hcz5_0, hcz5_1, hcz5_2, hfz5_0, hfz5_1, hfz5_2⟩ := bK3 (w := w4) BK112)))
   go_ret
   exact ⟨rR, bZ HB⟩
  ·rw [if_neg c3] at H
   have c3b0 : (a0_0 == 0) = false := beq_eq_false_iff_ne.mpr c3
   have c3b1 : (a0_0 != 0) = true := bne_iff_ne.mpr c3
   obtain rfl := Option.some.inj H
   go_enter Tryz.func47, Tryz.ntmps47
   go_wp2_with (first | (refine gB 1 #[.int .i64 a0_0, .int .i64 a0_1, .bool true] 28 ?_; intro gb112 hg w6 BK112 hb; have GW112 := bG HB hg; replace HB := bS HB hb; clear hb hg; obtain ⟨hcz7_0, hcz7_1, hcz7_2, hfz7_0, hfz7_1, hfz7_2⟩ := bK3 (w := w6) BK112))
   repeat (go_quiet (first | (refine gB 1 #[.int .i64 a0_0, .int .i64 a0_1, .bool true] 28 ?_; intro gb112 hg w6 BK112 hb; have GW112 := bG HB hg; replace HB := bS HB hb; clear hb hg; obtain ⟨hcz7_0, hcz7_1, hcz7_2, hfz7_0, hfz7_1, hfz7_2⟩ := bK3 (w := w6) BK112)); try go_wp2_with (first | (refine gB 1 #[.int .i64 a0_0, .int .i64 a0_1, .bool true] 28 ?_; intro gb112 hg w6 BK112 hb; have GW112 := bG HB hg; replace HB := bS HB hb; clear hb hg; obtain ⟨hcz7_0, hcz7_1, hcz7_2, hfz7_0, hfz7_1, hfz7_2⟩ := bK3 (w := w6) BK112)))
   go_ret
   exact ⟨rR, bZ HB⟩
 ·replace c2 := Bool.eq_false_iff.mpr c2
  subst c2
  rw [if_neg (show ¬ (false = true) by decide)] at H
  replace H := Option.bind_eq_some_iff.mp H
  obtain ⟨t113, A80, H⟩ := H
  have A8 := Aside0.mk A80
  clear A80
  by_cases c9 : t113 = true
  ·subst c9
   rw [if_pos rfl] at H
   replace H := Option.bind_eq_some_iff.mp H
   obtain ⟨t114, A100, H⟩ := H
   have A10 := Aside0.mk A100
   clear A100
   by_cases c11 : t114 = true
   ·subst c11
    rw [if_pos rfl] at H
    replace H := Option.bind_eq_some_iff.mp H
    obtain ⟨t115, A120, H⟩ := H
    have A12 := Aside0.mk A120
    clear A120
    replace H := Option.bind_eq_some_iff.mp H
    obtain ⟨t116, A130, H⟩ := H
    have A13 := Aside0.mk A130
    clear A130
    obtain rfl := Option.some.inj H
    go_enter Tryz.func47, Tryz.ntmps47
    go_wp2_with (first | (refine gB 1 #[.int .i64 a0_0, .int .i64 a0_1, .bool false] 28 ?_; intro gb112 hg w14 BK112 hb; have GW112 := bG HB hg; replace HB := bS HB hb; clear hb hg; obtain ⟨hcz15_0, hcz15_1, hcz15_2, hfz15_0, hfz15_1, hfz15_2⟩ := bK3 (w := w14) BK112) | (go_at_call 87; (with_reducible refine (impl_FpOk.calls a0_0 true _ A8.out).mono ?_); rintro e w' ⟨rfl, ⟨nd, rfl⟩⟩; (try exact tD)) | (go_at_call 87; (with_reducible refine (impl_FpOk.calls a0_1 true _ A10.out).mono ?_); rintro e w' ⟨rfl, ⟨nd, rfl⟩⟩; (try exact tD)) | (go_at_call 88; (with_reducible refine (impl_FpMul.calls a0_1 a0_1 t115 _ A12.out).mono ?_); rintro e w' ⟨rfl, ⟨nd, rfl⟩⟩; (try exact tD)) | (go_at_call 58; (with_reducible refine (impl_curveAt.calls a0_0 t116 _ A13.out).mono ?_); rintro e w' ⟨rfl, ⟨nd, rfl⟩⟩; (try exact tD)))
    repeat (go_quiet (first | (refine gB 1 #[.int .i64 a0_0, .int .i64 a0_1, .bool false] 28 ?_; intro gb112 hg w14 BK112 hb; have GW112 := bG HB hg; replace HB := bS HB hb; clear hb hg; obtain ⟨hcz15_0, hcz15_1, hcz15_2, hfz15_0, hfz15_1, hfz15_2⟩ := bK3 (w := w14) BK112) | (go_at_call 87; (with_reducible refine (impl_FpOk.calls a0_0 true _ A8.out).mono ?_); rintro e w' ⟨rfl, ⟨nd, rfl⟩⟩; (try exact tD)) | (go_at_call 87; (with_reducible refine (impl_FpOk.calls a0_1 true _ A10.out).mono ?_); rintro e w' ⟨rfl, ⟨nd, rfl⟩⟩; (try exact tD)) | (go_at_call 88; (with_reducible refine (impl_FpMul.calls a0_1 a0_1 t115 _ A12.out).mono ?_); rintro e w' ⟨rfl, ⟨nd, rfl⟩⟩; (try exact tD)) | (go_at_call 58; (with_reducible refine (impl_curveAt.calls a0_0 t116 _ A13.out).mono ?_); rintro e w' ⟨rfl, ⟨nd, rfl⟩⟩; (try exact tD))); try go_wp2_with (first | (refine gB 1 #[.int .i64 a0_0, .int .i64 a0_1, .bool false] 28 ?_; intro gb112 hg w14 BK112 hb; have GW112 := bG HB hg; replace HB := bS HB hb; clear hb hg; obtain ⟨hcz15_0, hcz15_1, hcz15_2, hfz15_0, hfz15_1, hfz15_2⟩ := bK3 (w := w14) BK112) | (go_at_call 87; (with_reducible refine (impl_FpOk.calls a0_0 true _ A8.out).mono ?_); rintro e w' ⟨rfl, ⟨nd, rfl⟩⟩; (try exact tD)) | (go_at_call 87; (with_reducible refine (impl_FpOk.calls a0_1 true _ A10.out).mono ?_); rintro e w' ⟨rfl, ⟨nd, rfl⟩⟩; (try exact tD)) | (go_at_call 88; (with_reducible refine (impl_FpMul.calls a0_1 a0_1 t115 _ A12.out).mono ?_); rintro e w' ⟨rfl, ⟨nd, rfl⟩⟩; (try exact tD)) | (go_at_call 58; (with_reducible refine (impl_curveAt.calls a0_0 t116 _ A13.out).mono ?_); rintro e w' ⟨rfl, ⟨nd, rfl⟩⟩; (try exact tD))))
    go_ret
    exact ⟨rR, bZ HB⟩
   ·replace c11 := Bool.eq_false_iff.mpr c11
    subst c11
    rw [if_neg (show ¬ (false = true) by decide)] at H
    obtain rfl := Option.some.inj H
    go_enter Tryz.func47, Tryz.ntmps47
    go_wp2_with (first | (refine gB 1 #[.int .i64 a0_0, .int .i64 a0_1, .bool false] 28 ?_; intro gb112 hg w16 BK112 hb; have GW112 := bG HB hg; replace HB := bS HB hb; clear hb hg; obtain ⟨hcz17_0, hcz17_1, hcz17_2, hfz17_0, hfz17_1, hfz17_2⟩ := bK3 (w := w16) BK112) | (go_at_call 87; (with_reducible refine (impl_FpOk.calls a0_0 true _ A8.out).mono ?_); rintro e w' ⟨rfl, ⟨nd, rfl⟩⟩; (try exact tD)) | (go_at_call 87; (with_reducible refine (impl_FpOk.calls a0_1 false _ A10.out).mono ?_); rintro e w' ⟨rfl, ⟨nd, rfl⟩⟩; (try exact tD)))
    repeat (go_quiet (first | (refine gB 1 #[.int .i64 a0_0, .int .i64 a0_1, .bool false] 28 ?_; intro gb112 hg w16 BK112 hb; have GW112 := bG HB hg; replace HB := bS HB hb; clear hb hg; obtain ⟨hcz17_0, hcz17_1, hcz17_2, hfz17_0, hfz17_1, hfz17_2⟩ := bK3 (w := w16) BK112) | (go_at_call 87; (with_reducible refine (impl_FpOk.calls a0_0 true _ A8.out).mono ?_); rintro e w' ⟨rfl, ⟨nd, rfl⟩⟩; (try exact tD)) | (go_at_call 87; (with_reducible refine (impl_FpOk.calls a0_1 false _ A10.out).mono ?_); rintro e w' ⟨rfl, ⟨nd, rfl⟩⟩; (try exact tD))); try go_wp2_with (first | (refine gB 1 #[.int .i64 a0_0, .int .i64 a0_1, .bool false] 28 ?_; intro gb112 hg w16 BK112 hb; have GW112 := bG HB hg; replace HB := bS HB hb; clear hb hg; obtain ⟨hcz17_0, hcz17_1, hcz17_2, hfz17_0, hfz17_1, hfz17_2⟩ := bK3 (w := w16) BK112) | (go_at_call 87; (with_reducible refine (impl_FpOk.calls a0_0 true _ A8.out).mono ?_); rintro e w' ⟨rfl, ⟨nd, rfl⟩⟩; (try exact tD)) | (go_at_call 87; (with_reducible refine (impl_FpOk.calls a0_1 false _ A10.out).mono ?_); rintro e w' ⟨rfl, ⟨nd, rfl⟩⟩; (try exact tD))))
    go_ret
    exact ⟨rR, bZ HB⟩
  ·replace c9 := Bool.eq_false_iff.mpr c9
   subst c9
   rw [if_neg (show ¬ (false = true) by decide)] at H
   obtain rfl := Option.some.inj H
   go_enter Tryz.func47, Tryz.ntmps47
   go_wp2_with (first | (refine gB 1 #[.int .i64 a0_0, .int .i64 a0_1, .bool false] 28 ?_; intro gb112 hg w18 BK112 hb; have GW112 := bG HB hg; replace HB := bS HB hb; clear hb hg; obtain ⟨hcz19_0, hcz19_1, hcz19_2, hfz19_0, hfz19_1, hfz19_2⟩ := bK3 (w := w18) BK112) | (go_at_call 87; (with_reducible refine (impl_FpOk.calls a0_0 false _ A8.out).mono ?_); rintro e w' ⟨rfl, ⟨nd, rfl⟩⟩; (try exact tD)))
   repeat (go_quiet (first | (refine gB 1 #[.int .i64 a0_0, .int .i64 a0_1, .bool false] 28 ?_; intro gb112 hg w18 BK112 hb; have GW112 := bG HB hg; replace HB := bS HB hb; clear hb hg; obtain ⟨hcz19_0, hcz19_1, hcz19_2, hfz19_0, hfz19_1, hfz19_2⟩ := bK3 (w := w18) BK112) | (go_at_call 87; (with_reducible refine (impl_FpOk.calls a0_0 false _ A8.out).mono ?_); rintro e w' ⟨rfl, ⟨nd, rfl⟩⟩; (try exact tD))); try go_wp2_with (first | (refine gB 1 #[.int .i64 a0_0, .int .i64 a0_1, .bool false] 28 ?_; intro gb112 hg w18 BK112 hb; have GW112 := bG HB hg; replace HB := bS HB hb; clear hb hg; obtain ⟨hcz19_0, hcz19_1, hcz19_2, hfz19_0, hfz19_1, hfz19_2⟩ := bK3 (w := w18) BK112) | (go_at_call 87; (with_reducible refine (impl_FpOk.calls a0_0 false _ A8.out).mono ?_); rintro e w' ⟨rfl, ⟨nd, rfl⟩⟩; (try exact tD))))
   go_ret
   exact ⟨rR, bZ HB⟩
def impl_FpSub.f (a0 : Int) (a1 : Int) : Option (Int) := (impl_FpOf.f a0).bind fun t117 => ((impl_FpOf.f a1).bind fun t118 => ((impl_FpOf.f (wrap64 (t117 - t118))).bind fun t119 => (some t119)))
set_option maxHeartbeats 8000000 in
set_option maxRecDepth 100000 in
theorem impl_FpSub.calls (a0 : Int) (a1 : Int) (r : Int) (w : World) (h : impl_FpSub.f a0 a1 = some r) :
  Calls Tryz.prog 90 #[.int .i64 a0, .int .i64 a1] w fun e w' => e = .returned (.int .i64 r) ∧ Drawn0 w w' := by
 have H : ((impl_FpOf.f a0).bind fun t117 => ((impl_FpOf.f a1).bind fun t118 => ((impl_FpOf.f (wrap64 (t117 - t118))).bind fun t119 => (some t119)))) = some r := h
 clear h
 replace H := Option.bind_eq_some_iff.mp H
 obtain ⟨t117, A30, H⟩ := H
 have A3 := Aside0.mk A30
 clear A30
 replace H := Option.bind_eq_some_iff.mp H
 obtain ⟨t118, A40, H⟩ := H
 have A4 := Aside0.mk A40
 clear A40
 replace H := Option.bind_eq_some_iff.mp H
 obtain ⟨t119, A50, H⟩ := H
 have A5 := Aside0.mk A50
 clear A50
 obtain rfl := Option.some.inj H
 go_enter Tryz.func90, Tryz.ntmps90
 go_wp2_with (first | (refine gC (some 6) Tryz.func56 #[.int .i64 a0] ?_; (with_reducible refine (impl_FpOf.calls a0 t117 _ A3.out).mono ?_); rintro e w' ⟨rfl, ⟨nd, rfl⟩⟩; refine ⟨_, rfl, ?_⟩) | (refine gC (some 8) Tryz.func56 #[.int .i64 a1] ?_; (with_reducible refine (impl_FpOf.calls a1 t118 _ A4.out).mono ?_); rintro e w' ⟨rfl, ⟨nd, rfl⟩⟩; refine ⟨_, rfl, ?_⟩) | (refine gC (some 10) Tryz.func56 #[.int .i64 (wrap64 (t117 - t118))] ?_; (with_reducible refine (impl_FpOf.calls (wrap64 (t117 - t118)) t119 _ A5.out).mono ?_); rintro e w' ⟨rfl, ⟨nd, rfl⟩⟩; refine ⟨_, rfl, ?_⟩))
 go_ret
 exact ⟨rS, rD⟩
def impl_powerMod.l0 : Nat → Int → Int → Int → Int → Option (Int)
 | 0, _, _, _, _ => none
 | k + 1, x0, x1, x2, x7 => if x1 > 0 then (if (Int.tmod x1 2) = 1 then (if x2 = 0 then (none) else (impl_powerMod.l0 k (Int.tmod (wrap64 (x0 * x0)) x2) (wrap64 (Int.tdiv x1 2)) x2 (Int.tmod (wrap64 (x7 * x0)) x2))) else (if x2 = 0 then (none) else (impl_powerMod.l0 k (Int.tmod (wrap64 (x0 * x0)) x2) (wrap64 (Int.tdiv x1 2)) x2 x7))) else (some x7)
def impl_powerMod.f (k : Nat) (a0 : Int) (a1 : Int) (a2 : Int) : Option (Int) := (impl_remainder.f a0 a2).bind fun t120 => (impl_powerMod.l0 k t120 a1 a2 1)
set_option maxHeartbeats 8000000 in
set_option maxRecDepth 100000 in
theorem impl_powerMod.calls (k : Nat) (a0 : Int) (a1 : Int) (a2 : Int) (r : Int) (w : World) (h : impl_powerMod.f k a0 a1 a2 = some r) :
  Calls Tryz.prog 97 #[.int .i64 a0, .int .i64 a1, .int .i64 a2] w fun e w' => e = .returned (.int .i64 r) ∧ Drawn0 w w' := by
 have H : ((impl_remainder.f a0 a2).bind fun t120 => (impl_powerMod.l0 k t120 a1 a2 1)) = some r := h
 clear h
 replace H := Option.bind_eq_some_iff.mp H
 obtain ⟨t120, A40, H⟩ := H
 have A4 := Aside0.mk A40
 clear A40
 have H' := Aside0.mk H
 clear H
 go_enter Tryz.func97, Tryz.ntmps97
 go_wp2_with (first | (refine gC (some 10) Tryz.func86 #[.int .i64 a0, .int .i64 a2] ?_; (with_reducible refine (impl_remainder.calls a0 a2 t120 _ A4.out).mono ?_); rintro e w' ⟨rfl, ⟨nd, rfl⟩⟩; refine ⟨_, rfl, ?_⟩))
 go_loopg [0, 1, 7] k (fun kq v0 v1 v7 w' => ∃ (x0_1 : Int) (x1_1 : Int) (x7_1 : Int), v0 = .int .i64 x0_1 ∧ v1 = .int .i64 x1_1 ∧ v7 = .int .i64 x7_1 ∧ Aside0 (impl_powerMod.l0 kq x0_1 x1_1 a2 x7_1 = some r) ∧ Aside0 (kq ≤ k) ∧ Drawn0 w w')
 case atStart => exact ⟨(t120), (a1), (1), rS, rS, rS, H', ⟨Nat.le_refl _⟩, by repeat (first | exact Drawn0.refl _ | apply Drawn0.step)⟩
 case round =>
  clear H'
  try clear p2
  obtain ⟨x0_1, x1_1, x7_1, rfl, rfl, rfl, HA, HK1, ⟨m1, rfl⟩⟩ := hrel
  cases gk with
  | zero => exact absurd HA.out (by simp [impl_powerMod.l0])
  | succ k1 =>
   have H := HA.out
   clear HA
   simp only [impl_powerMod.l0] at H
   by_cases c5 : x1_1 > 0
   ·rw [if_pos c5] at H
    have c5b0 := decide_eq_true c5
    clear c5
    by_cases c6 : (Int.tmod x1_1 2) = 1
    ·rw [if_pos c6] at H
     have c6b0 : ((Int.tmod x1_1 2) == 1) = true := beq_iff_eq.mpr c6
     have c6b1 : ((Int.tmod x1_1 2) != 1) = false := bne_eq_false_iff_eq.mpr c6
     clear c6
     by_cases c7 : a2 = 0
     ·rw [if_pos c7] at H
      exact absurd H (by simp)
     ·rw [if_neg c7] at H
      have c7b0 : (a2 == 0) = false := beq_eq_false_iff_ne.mpr c7
      have c7b1 : (a2 != 0) = true := bne_iff_ne.mpr c7
      have H' := Aside0.mk H
      clear H
      go_wp2
      go_roundg k1
      case measure => have := HK1.out; omega
      case rel => exact ⟨(Int.tmod (wrap64 (x0_1 * x0_1)) a2), (wrap64 (Int.tdiv x1_1 2)), (Int.tmod (wrap64 (x7_1 * x0_1)) a2), rS, rS, rS, H', ⟨by have := HK1.out; omega⟩, by repeat (first | exact Drawn0.refl _ | apply Drawn0.step)⟩
    ·rw [if_neg c6] at H
     have c6b0 : ((Int.tmod x1_1 2) == 1) = false := beq_eq_false_iff_ne.mpr c6
     have c6b1 : ((Int.tmod x1_1 2) != 1) = true := bne_iff_ne.mpr c6
     by_cases c8 : a2 = 0
     ·rw [if_pos c8] at H
      exact absurd H (by simp)
     ·rw [if_neg c8] at H
      have c8b0 : (a2 == 0) = false := beq_eq_false_iff_ne.mpr c8
      have c8b1 : (a2 != 0) = true := bne_iff_ne.mpr c8
      have H' := Aside0.mk H
      clear H
      go_wp2
      go_roundg k1
      case measure => have := HK1.out; omega
      case rel => exact ⟨(Int.tmod (wrap64 (x0_1 * x0_1)) a2), (wrap64 (Int.tdiv x1_1 2)), (x7_1), rS, rS, rS, H', ⟨by have := HK1.out; omega⟩, by repeat (first | exact Drawn0.refl _ | apply Drawn0.step)⟩
   ·rw [if_neg c5] at H
    have c5b0 := decide_eq_false c5
    clear c5
    obtain rfl := Option.some.inj H
    go_wp2
    go_ret
    exact ⟨rS, rD⟩
def impl_FpInv.f (k : Nat) (a0 : Int) : Option (Int) := (impl_powerMod.f k a0 12105 12107).bind fun t121 => (some t121)
set_option maxHeartbeats 8000000 in
set_option maxRecDepth 100000 in
theorem impl_FpInv.calls (k : Nat) (a0 : Int) (r : Int) (w : World) (h : impl_FpInv.f k a0 = some r) :
  Calls Tryz.prog 131 #[.int .i64 a0] w fun e w' => e = .returned (.int .i64 r) ∧ Drawn0 w w' := by
 have H : ((impl_powerMod.f k a0 12105 12107).bind fun t121 => (some t121)) = some r := h
 clear h
 replace H := Option.bind_eq_some_iff.mp H
 obtain ⟨t121, A20, H⟩ := H
 have A2 := Aside0.mk A20
 clear A20
 obtain rfl := Option.some.inj H
 go_enter Tryz.func131, Tryz.ntmps131
 go_wp2_with (first | (refine gC (some 4) Tryz.func97 #[.int .i64 a0, .int .i64 12105, .int .i64 12107] ?_; (with_reducible refine (impl_powerMod.calls k a0 12105 12107 t121 _ A2.out).mono ?_); rintro e w' ⟨rfl, ⟨nd, rfl⟩⟩; refine ⟨_, rfl, ?_⟩))
 go_ret
 exact ⟨rS, rD⟩
def impl_slopeOf.j0 : Nat → Bool → Int → Int → Bool → Option (Int × Bool)
 | 0, _, _, _, _ => none
 | k + 1, x32, x123000, x123001, x123002 => if x32 = true then (some (0, false)) else ((impl_FpMul.f x123000 x123000).bind fun t128 => ((impl_FpMul.f 3 t128).bind fun t129 => ((impl_FpAdd.f t129 1).bind fun t130 => ((impl_FpMul.f 2 x123001).bind fun t131 => ((impl_FpInv.f k t131).bind fun t132 => ((impl_FpMul.f t130 t132).bind fun t133 => (some (t133, true))))))))
def impl_slopeOf.f (k : Nat) (a0_0 : Int) (a0_1 : Int) (a0_2 : Bool) (a1_0 : Int) (a1_1 : Int) (a1_2 : Bool) : Option (Int × Bool) := if a0_0 = a1_0 then (if a0_1 = a1_1 then (impl_slopeOf.j0 k (a0_1 == 0) a0_0 a0_1 a0_2) else (impl_slopeOf.j0 k true a0_0 a0_1 a0_2)) else ((impl_FpSub.f a1_1 a0_1).bind fun t124 => ((impl_FpSub.f a1_0 a0_0).bind fun t125 => ((impl_FpInv.f k t125).bind fun t126 => ((impl_FpMul.f t124 t126).bind fun t127 => (some (t127, true))))))
set_option maxHeartbeats 8000000 in
set_option maxRecDepth 100000 in
theorem impl_slopeOf.calls (k : Nat) (a0_0 : Int) (a0_1 : Int) (a0_2 : Bool) (a1_0 : Int) (a1_1 : Int) (a1_2 : Bool) (r1 : Int) (r2 : Bool) (w : World) (h : impl_slopeOf.f k a0_0 a0_1 a0_2 a1_0 a1_1 a1_2 = some (r1, r2)) :
  Calls Tryz.prog 89 #[.agg #[.int .i64 a0_0, .int .i64 a0_1, .bool a0_2], .agg #[.int .i64 a1_0, .int .i64 a1_1, .bool a1_2]] w fun e w' => e = .returned (.tuple #[.int .i64 r1, .bool r2]) ∧ Below w.heap.size w w' := by
 have hu28 := Tryz.underlying28
 have HB := Aside0.mk (Below.refl w.heap.size w)
 have H : (if a0_0 = a1_0 then (if a0_1 = a1_1 then (impl_slopeOf.j0 k (a0_1 == 0) a0_0 a0_1 a0_2) else (impl_slopeOf.j0 k true a0_0 a0_1 a0_2)) else ((impl_FpSub.f a1_1 a0_1).bind fun t124 => ((impl_FpSub.f a1_0 a0_0).bind fun t125 => ((impl_FpInv.f k t125).bind fun t126 => ((impl_FpMul.f t124 t126).bind fun t127 => (some (t127, true))))))) = some (r1, r2) := h
 clear h
 by_cases c3 : a0_0 = a1_0
 ·rw [if_pos c3] at H
  have c3b0 : (a0_0 == a1_0) = true := beq_iff_eq.mpr c3
  have c3b1 : (a0_0 != a1_0) = false := bne_eq_false_iff_eq.mpr c3
  clear c3
  have HC4 := Aside0.mk H
  clear H
  go_enter Tryz.func89, Tryz.ntmps89
  go_upto_region 3 with (first | (refine gB 2 #[.int .i64 a0_0, .int .i64 a0_1, .bool a0_2] 28 ?_; intro gb122 hg w5 BK122 hb; have GW122 := bG HB hg; replace HB := bS HB hb; clear hb hg) | (refine gB 3 #[.int .i64 a1_0, .int .i64 a1_1, .bool a1_2] 28 ?_; intro gb123 hg w6 BK123 hb; have GW123 := bG HB hg; replace HB := bS HB hb; obtain ⟨NB122_123, NB123_122⟩ := bN BK122 hg; replace BK122 := bB BK122 hb; clear hb hg; obtain ⟨hnb7, hnc7⟩ := nB NB122_123; obtain ⟨hcz8_0, hcz8_1, hcz8_2, hfz8_0, hfz8_1, hfz8_2⟩ := bK3 (w := w6) BK122; obtain ⟨hcz9_0, hcz9_1, hcz9_2, hfz9_0, hfz9_1, hfz9_2⟩ := bK3 (w := w6) BK123))
  repeat (go_quiet (first | (refine gB 2 #[.int .i64 a0_0, .int .i64 a0_1, .bool a0_2] 28 ?_; intro gb122 hg w5 BK122 hb; have GW122 := bG HB hg; replace HB := bS HB hb; clear hb hg) | (refine gB 3 #[.int .i64 a1_0, .int .i64 a1_1, .bool a1_2] 28 ?_; intro gb123 hg w6 BK123 hb; have GW123 := bG HB hg; replace HB := bS HB hb; obtain ⟨NB122_123, NB123_122⟩ := bN BK122 hg; replace BK122 := bB BK122 hb; clear hb hg; obtain ⟨hnb7, hnc7⟩ := nB NB122_123; obtain ⟨hcz8_0, hcz8_1, hcz8_2, hfz8_0, hfz8_1, hfz8_2⟩ := bK3 (w := w6) BK122; obtain ⟨hcz9_0, hcz9_1, hcz9_2, hfz9_0, hfz9_1, hfz9_2⟩ := bK3 (w := w6) BK123)); go_upto_region 3 with (first | (refine gB 2 #[.int .i64 a0_0, .int .i64 a0_1, .bool a0_2] 28 ?_; intro gb122 hg w5 BK122 hb; have GW122 := bG HB hg; replace HB := bS HB hb; clear hb hg) | (refine gB 3 #[.int .i64 a1_0, .int .i64 a1_1, .bool a1_2] 28 ?_; intro gb123 hg w6 BK123 hb; have GW123 := bG HB hg; replace HB := bS HB hb; obtain ⟨NB122_123, NB123_122⟩ := bN BK122 hg; replace BK122 := bB BK122 hb; clear hb hg; obtain ⟨hnb7, hnc7⟩ := nB NB122_123; obtain ⟨hcz8_0, hcz8_1, hcz8_2, hfz8_0, hfz8_1, hfz8_2⟩ := bK3 (w := w6) BK122; obtain ⟨hcz9_0, hcz9_1, hcz9_2, hfz9_0, hfz9_1, hfz9_2⟩ := bK3 (w := w6) BK123)))
  (try simp only [Act.put, List.setIfInBounds_toArray, List.set_cons_zero, List.set_cons_succ])
  go_cut [32] (fun v32 wc => ∃ (kq : Nat) (x32_3 : Bool), v32 = .bool x32_3 ∧ Aside0 (impl_slopeOf.j0 kq x32_3 a0_0 a0_1 a0_2 = some (r1, r2)) ∧ Aside0 (kq ≤ k) ∧ Aside0 (wc.heap[gb122]? = some (.cells #[.int .i64 a0_0, .int .i64 a0_1, .bool a0_2] 28 (0, 0))) ∧ Aside0 (wc.heap[gb123]? = some (.cells #[.int .i64 a1_0, .int .i64 a1_1, .bool a1_2] 28 (0, 0))) ∧ Aside0 (Below w.heap.size w wc))
  case first =>
   have H := HC4.out
   clear HC4
   by_cases c10 : a0_1 = a1_1
   ·rw [if_pos c10] at H
    have c10b0 : (a0_1 == a1_1) = true := beq_iff_eq.mpr c10
    have c10b1 : (a0_1 != a1_1) = false := bne_eq_false_iff_eq.mpr c10
    clear c10
    (first | rw [c10b0] | (simp only [i64_w, i32_w]; rw [c10b0]) | rw [c10b1] | skip)
    have H' := Aside0.mk H
    clear H
    obtain ⟨hnb11, hnc11⟩ := nB NB122_123
    obtain ⟨hcz12_0, hcz12_1, hcz12_2, hfz12_0, hfz12_1, hfz12_2⟩ := bK3 (w := w6) BK122
    obtain ⟨hcz13_0, hcz13_1, hcz13_2, hfz13_0, hfz13_1, hfz13_2⟩ := bK3 (w := w6) BK123
    go_wp2
    repeat (go_quiet (fail); try go_wp2)
    go_meet
    case rel => exact ⟨_, ((a0_1 == 0)), rS, H', ⟨by first | omega | exact Nat.le_refl _⟩, ⟨bP BK122⟩, ⟨bP BK123⟩, ⟨bZ HB⟩⟩
   ·rw [if_neg c10] at H
    have c10b0 : (a0_1 == a1_1) = false := beq_eq_false_iff_ne.mpr c10
    have c10b1 : (a0_1 != a1_1) = true := bne_iff_ne.mpr c10
    (first | rw [c10b0] | (simp only [i64_w, i32_w]; rw [c10b0]) | rw [c10b1] | skip)
    have H' := Aside0.mk H
    clear H
    obtain ⟨hnb14, hnc14⟩ := nB NB122_123
    obtain ⟨hcz15_0, hcz15_1, hcz15_2, hfz15_0, hfz15_1, hfz15_2⟩ := bK3 (w := w6) BK122
    obtain ⟨hcz16_0, hcz16_1, hcz16_2, hfz16_0, hfz16_1, hfz16_2⟩ := bK3 (w := w6) BK123
    go_wp2
    repeat (go_quiet (fail); try go_wp2)
    go_meet
    case rel => exact ⟨_, (true), rS, H', ⟨by first | omega | exact Nat.le_refl _⟩, ⟨bP BK122⟩, ⟨bP BK123⟩, ⟨bZ HB⟩⟩
  case rest =>
   clear HC4
   try clear c1
   try clear p2
   try clear c3
   try clear c3b0
   try clear c3b1
   try clear c7
   try clear c8
   try clear c10
   try clear c10b0
   try clear c10b1
   try clear c11
   try clear c14
   try clear hcz12_0
   try clear hcz12_1
   try clear hcz12_2
   try clear hcz13_0
   try clear hcz13_1
   try clear hcz13_2
   try clear hcz15_0
   try clear hcz15_1
   try clear hcz15_2
   try clear hcz16_0
   try clear hcz16_1
   try clear hcz16_2
   try clear hcz8_0
   try clear hcz8_1
   try clear hcz8_2
   try clear hcz9_0
   try clear hcz9_1
   try clear hcz9_2
   try clear hfz12_0
   try clear hfz12_1
   try clear hfz12_2
   try clear hfz13_0
   try clear hfz13_1
   try clear hfz13_2
   try clear hfz15_0
   try clear hfz15_1
   try clear hfz15_2
   try clear hfz16_0
   try clear hfz16_1
   try clear hfz16_2
   try clear hfz8_0
   try clear hfz8_1
   try clear hfz8_2
   try clear hfz9_0
   try clear hfz9_1
   try clear hfz9_2
   obtain ⟨kq, x32_3, rfl, HA, HJ3, BK122, BK123, HB⟩ := hcut
   cases kq with
   | zero => exact absurd HA.out (by simp [impl_slopeOf.j0])
   | succ kj3 =>
    have H := HA.out
    clear HA
    simp only [impl_slopeOf.j0] at H
    by_cases c17 : x32_3 = true
    ·subst c17
     rw [if_pos rfl] at H
     simp only [Option.some.injEq, Prod.mk.injEq] at H
     obtain ⟨rfl, rfl⟩ := H
     go_wp2
     repeat (go_quiet (fail); try go_wp2)
     go_ret2
     exact ⟨rR, bZ HB⟩
    ·replace c17 := Bool.eq_false_iff.mpr c17
     subst c17
     rw [if_neg (show ¬ (false = true) by decide)] at H
     replace H := Option.bind_eq_some_iff.mp H
     obtain ⟨t128, A180, H⟩ := H
     have A18 := Aside0.mk A180
     clear A180
     replace H := Option.bind_eq_some_iff.mp H
     obtain ⟨t129, A190, H⟩ := H
     have A19 := Aside0.mk A190
     clear A190
     replace H := Option.bind_eq_some_iff.mp H
     obtain ⟨t130, A200, H⟩ := H
     have A20 := Aside0.mk A200
     clear A200
     replace H := Option.bind_eq_some_iff.mp H
     obtain ⟨t131, A210, H⟩ := H
     have A21 := Aside0.mk A210
     clear A210
     replace H := Option.bind_eq_some_iff.mp H
     obtain ⟨t132, A220, H⟩ := H
     have A22 := Aside0.mk A220
     clear A220
     replace H := Option.bind_eq_some_iff.mp H
     obtain ⟨t133, A230, H⟩ := H
     have A23 := Aside0.mk A230
     clear A230
     simp only [Option.some.injEq, Prod.mk.injEq] at H
     obtain ⟨rfl, rfl⟩ := H
     obtain ⟨hnb24, hnc24⟩ := nB NB122_123
     obtain ⟨hcz25_0, hcz25_1, hcz25_2, hfz25_0, hfz25_1, hfz25_2⟩ := bK3 (w := wc) BK122
     go_wp2_with (first | (go_at_call 88; (with_reducible refine (impl_FpMul.calls a0_0 a0_0 t128 _ A18.out).mono ?_); rintro e w' ⟨rfl, ⟨nd, rfl⟩⟩; (try exact tD)) | (go_at_call 88; (with_reducible refine (impl_FpMul.calls 3 t128 t129 _ A19.out).mono ?_); rintro e w' ⟨rfl, ⟨nd, rfl⟩⟩; (try exact tD)) | (go_at_call 98; (with_reducible refine (impl_FpAdd.calls t129 1 t130 _ A20.out).mono ?_); rintro e w' ⟨rfl, ⟨nd, rfl⟩⟩; (try exact tD)) | (go_at_call 88; (with_reducible refine (impl_FpMul.calls 2 a0_1 t131 _ A21.out).mono ?_); rintro e w' ⟨rfl, ⟨nd, rfl⟩⟩; (try exact tD)) | (go_at_call 131; (with_reducible refine (impl_FpInv.calls kj3 t131 t132 _ A22.out).mono ?_); rintro e w' ⟨rfl, ⟨nd, rfl⟩⟩; (try exact tD)) | (go_at_call 88; (with_reducible refine (impl_FpMul.calls t130 t132 t133 _ A23.out).mono ?_); rintro e w' ⟨rfl, ⟨nd, rfl⟩⟩; (try exact tD)))
     repeat (go_quiet (first | (go_at_call 88; (with_reducible refine (impl_FpMul.calls a0_0 a0_0 t128 _ A18.out).mono ?_); rintro e w' ⟨rfl, ⟨nd, rfl⟩⟩; (try exact tD)) | (go_at_call 88; (with_reducible refine (impl_FpMul.calls 3 t128 t129 _ A19.out).mono ?_); rintro e w' ⟨rfl, ⟨nd, rfl⟩⟩; (try exact tD)) | (go_at_call 98; (with_reducible refine (impl_FpAdd.calls t129 1 t130 _ A20.out).mono ?_); rintro e w' ⟨rfl, ⟨nd, rfl⟩⟩; (try exact tD)) | (go_at_call 88; (with_reducible refine (impl_FpMul.calls 2 a0_1 t131 _ A21.out).mono ?_); rintro e w' ⟨rfl, ⟨nd, rfl⟩⟩; (try exact tD)) | (go_at_call 131; (with_reducible refine (impl_FpInv.calls kj3 t131 t132 _ A22.out).mono ?_); rintro e w' ⟨rfl, ⟨nd, rfl⟩⟩; (try exact tD)) | (go_at_call 88; (with_reducible refine (impl_FpMul.calls t130 t132 t133 _ A23.out).mono ?_); rintro e w' ⟨rfl, ⟨nd, rfl⟩⟩; (try exact tD))); try go_wp2_with (first | (go_at_call 88; (with_reducible refine (impl_FpMul.calls a0_0 a0_0 t128 _ A18.out).mono ?_); rintro e w' ⟨rfl, ⟨nd, rfl⟩⟩; (try exact tD)) | (go_at_call 88; (with_reducible refine (impl_FpMul.calls 3 t128 t129 _ A19.out).mono ?_); rintro e w' ⟨rfl, ⟨nd, rfl⟩⟩; (try exact tD)) | (go_at_call 98; (with_reducible refine (impl_FpAdd.calls t129 1 t130 _ A20.out).mono ?_); rintro e w' ⟨rfl, ⟨nd, rfl⟩⟩; (try exact tD)) | (go_at_call 88; (with_reducible refine (impl_FpMul.calls 2 a0_1 t131 _ A21.out).mono ?_); rintro e w' ⟨rfl, ⟨nd, rfl⟩⟩; (try exact tD)) | (go_at_call 131; (with_reducible refine (impl_FpInv.calls kj3 t131 t132 _ A22.out).mono ?_); rintro e w' ⟨rfl, ⟨nd, rfl⟩⟩; (try exact tD)) | (go_at_call 88; (with_reducible refine (impl_FpMul.calls t130 t132 t133 _ A23.out).mono ?_); rintro e w' ⟨rfl, ⟨nd, rfl⟩⟩; (try exact tD))))
     go_ret2
     exact ⟨rR, bZ HB⟩
 ·rw [if_neg c3] at H
  have c3b0 : (a0_0 == a1_0) = false := beq_eq_false_iff_ne.mpr c3
  have c3b1 : (a0_0 != a1_0) = true := bne_iff_ne.mpr c3
  replace H := Option.bind_eq_some_iff.mp H
  obtain ⟨t124, A260, H⟩ := H
  have A26 := Aside0.mk A260
  clear A260
  replace H := Option.bind_eq_some_iff.mp H
  obtain ⟨t125, A270, H⟩ := H
  have A27 := Aside0.mk A270
  clear A270
  replace H := Option.bind_eq_some_iff.mp H
  obtain ⟨t126, A280, H⟩ := H
  have A28 := Aside0.mk A280
  clear A280
  replace H := Option.bind_eq_some_iff.mp H
  obtain ⟨t127, A290, H⟩ := H
  have A29 := Aside0.mk A290
  clear A290
  simp only [Option.some.injEq, Prod.mk.injEq] at H
  obtain ⟨rfl, rfl⟩ := H
  go_enter Tryz.func89, Tryz.ntmps89
  go_wp2_with (first | (refine gB 2 #[.int .i64 a0_0, .int .i64 a0_1, .bool a0_2] 28 ?_; intro gb122 hg w30 BK122 hb; have GW122 := bG HB hg; replace HB := bS HB hb; clear hb hg) | (refine gB 3 #[.int .i64 a1_0, .int .i64 a1_1, .bool a1_2] 28 ?_; intro gb123 hg w31 BK123 hb; have GW123 := bG HB hg; replace HB := bS HB hb; obtain ⟨NB122_123, NB123_122⟩ := bN BK122 hg; replace BK122 := bB BK122 hb; clear hb hg; obtain ⟨hnb32, hnc32⟩ := nB NB122_123; obtain ⟨hcz33_0, hcz33_1, hcz33_2, hfz33_0, hfz33_1, hfz33_2⟩ := bK3 (w := w31) BK122; obtain ⟨hcz34_0, hcz34_1, hcz34_2, hfz34_0, hfz34_1, hfz34_2⟩ := bK3 (w := w31) BK123) | (go_at_call 90; (with_reducible refine (impl_FpSub.calls a1_1 a0_1 t124 _ A26.out).mono ?_); rintro e w' ⟨rfl, ⟨nd, rfl⟩⟩; (try exact tD)) | (go_at_call 90; (with_reducible refine (impl_FpSub.calls a1_0 a0_0 t125 _ A27.out).mono ?_); rintro e w' ⟨rfl, ⟨nd, rfl⟩⟩; (try exact tD)) | (go_at_call 131; (with_reducible refine (impl_FpInv.calls k t125 t126 _ A28.out).mono ?_); rintro e w' ⟨rfl, ⟨nd, rfl⟩⟩; (try exact tD)) | (go_at_call 88; (with_reducible refine (impl_FpMul.calls t124 t126 t127 _ A29.out).mono ?_); rintro e w' ⟨rfl, ⟨nd, rfl⟩⟩; (try exact tD)))
  repeat (go_quiet (first | (refine gB 2 #[.int .i64 a0_0, .int .i64 a0_1, .bool a0_2] 28 ?_; intro gb122 hg w30 BK122 hb; have GW122 := bG HB hg; replace HB := bS HB hb; clear hb hg) | (refine gB 3 #[.int .i64 a1_0, .int .i64 a1_1, .bool a1_2] 28 ?_; intro gb123 hg w31 BK123 hb; have GW123 := bG HB hg; replace HB := bS HB hb; obtain ⟨NB122_123, NB123_122⟩ := bN BK122 hg; replace BK122 := bB BK122 hb; clear hb hg; obtain ⟨hnb32, hnc32⟩ := nB NB122_123; obtain ⟨hcz33_0, hcz33_1, hcz33_2, hfz33_0, hfz33_1, hfz33_2⟩ := bK3 (w := w31) BK122; obtain ⟨hcz34_0, hcz34_1, hcz34_2, hfz34_0, hfz34_1, hfz34_2⟩ := bK3 (w := w31) BK123) | (go_at_call 90; (with_reducible refine (impl_FpSub.calls a1_1 a0_1 t124 _ A26.out).mono ?_); rintro e w' ⟨rfl, ⟨nd, rfl⟩⟩; (try exact tD)) | (go_at_call 90; (with_reducible refine (impl_FpSub.calls a1_0 a0_0 t125 _ A27.out).mono ?_); rintro e w' ⟨rfl, ⟨nd, rfl⟩⟩; (try exact tD)) | (go_at_call 131; (with_reducible refine (impl_FpInv.calls k t125 t126 _ A28.out).mono ?_); rintro e w' ⟨rfl, ⟨nd, rfl⟩⟩; (try exact tD)) | (go_at_call 88; (with_reducible refine (impl_FpMul.calls t124 t126 t127 _ A29.out).mono ?_); rintro e w' ⟨rfl, ⟨nd, rfl⟩⟩; (try exact tD))); try go_wp2_with (first | (refine gB 2 #[.int .i64 a0_0, .int .i64 a0_1, .bool a0_2] 28 ?_; intro gb122 hg w30 BK122 hb; have GW122 := bG HB hg; replace HB := bS HB hb; clear hb hg) | (refine gB 3 #[.int .i64 a1_0, .int .i64 a1_1, .bool a1_2] 28 ?_; intro gb123 hg w31 BK123 hb; have GW123 := bG HB hg; replace HB := bS HB hb; obtain ⟨NB122_123, NB123_122⟩ := bN BK122 hg; replace BK122 := bB BK122 hb; clear hb hg; obtain ⟨hnb32, hnc32⟩ := nB NB122_123; obtain ⟨hcz33_0, hcz33_1, hcz33_2, hfz33_0, hfz33_1, hfz33_2⟩ := bK3 (w := w31) BK122; obtain ⟨hcz34_0, hcz34_1, hcz34_2, hfz34_0, hfz34_1, hfz34_2⟩ := bK3 (w := w31) BK123) | (go_at_call 90; (with_reducible refine (impl_FpSub.calls a1_1 a0_1 t124 _ A26.out).mono ?_); rintro e w' ⟨rfl, ⟨nd, rfl⟩⟩; (try exact tD)) | (go_at_call 90; (with_reducible refine (impl_FpSub.calls a1_0 a0_0 t125 _ A27.out).mono ?_); rintro e w' ⟨rfl, ⟨nd, rfl⟩⟩; (try exact tD)) | (go_at_call 131; (with_reducible refine (impl_FpInv.calls k t125 t126 _ A28.out).mono ?_); rintro e w' ⟨rfl, ⟨nd, rfl⟩⟩; (try exact tD)) | (go_at_call 88; (with_reducible refine (impl_FpMul.calls t124 t126 t127 _ A29.out).mono ?_); rintro e w' ⟨rfl, ⟨nd, rfl⟩⟩; (try exact tD))))
  go_ret2
  exact ⟨rR, bZ HB⟩
def impl_add.f (k : Nat) (a0_0 : Int) (a0_1 : Int) (a0_2 : Bool) (a1_0 : Int) (a1_1 : Int) (a1_2 : Bool) : Option (Int × Int × Bool) := if a0_2 = true then (some (a1_0, a1_1, a1_2)) else (if a1_2 = true then (some (a0_0, a0_1, a0_2)) else ((impl_slopeOf.f k a0_0 a0_1 a0_2 a1_0 a1_1 a1_2).bind fun bt137 => (if bt137.2 = true then ((impl_FpMul.f bt137.1 bt137.1).bind fun t139 => ((impl_FpSub.f t139 a0_0).bind fun t140 => ((impl_FpSub.f t140 a1_0).bind fun t141 => ((impl_FpSub.f a0_0 t141).bind fun t142 => ((impl_FpMul.f bt137.1 t142).bind fun t143 => ((impl_FpSub.f t143 a0_1).bind fun t144 => (some (t141, t144, false)))))))) else (some (0, 0, true)))))
def impl_add.T8 : Bool × List (List Nat × List Nat) := (true, [([], []), ([], []), ([0, 1], [0, 1]), ([], []), ([3], [3]), ([2, 4, 2], [2, 4]), ([], []), ([6], [6]), ([5, 7, 5], [5, 7]), ([8, 8, 0, 1, 2, 3, 4, 5, 6, 7, 8], [8])])
def impl_add.B8 : List Nat := [0, 0, 3, 0, 8, 31, 0, 64, 255, 511]
theorem impl_add.tab8 : rtab .any (opsOf Tryz.f48 8) = impl_add.T8 := by kernel_rfl
theorem impl_add.bits8 : waitsOk impl_add.T8.2 impl_add.B8 = true := by kernel_rfl
def impl_add.T9 : Bool × List (List Nat × List Nat) := (true, [([], []), ([], []), ([], []), ([2], [2]), ([], []), ([3, 4], [3, 4]), ([1, 5, 5], [1, 5]), ([], []), ([7], [7]), ([6, 8, 6], [6, 8]), ([0, 9], [0, 9]), ([10, 9, 0, 1, 2, 3, 4, 5, 6, 7, 8, 9, 10], [10])])
def impl_add.B9 : List Nat := [0, 0, 0, 4, 0, 28, 62, 0, 128, 510, 1023, 2047]
theorem impl_add.tab9 : rtab .any (opsOf Tryz.f48 9) = impl_add.T9 := by kernel_rfl
theorem impl_add.bits9 : waitsOk impl_add.T9.2 impl_add.B9 = true := by kernel_rfl
set_option maxHeartbeats 8000000 in
set_option maxRecDepth 100000 in
theorem impl_add.calls (k : Nat) (a0_0 : Int) (a0_1 : Int) (a0_2 : Bool) (a1_0 : Int) (a1_1 : Int) (a1_2 : Bool) (r1 : Int) (r2 : Int) (r3 : Bool) (w : World) (h : impl_add.f k a0_0 a0_1 a0_2 a1_0 a1_1 a1_2 = some (r1, r2, r3)) :
  Calls Tryz.prog 48 #[.agg #[.int .i64 a0_0, .int .i64 a0_1, .bool a0_2], .agg #[.int .i64 a1_0, .int .i64 a1_1, .bool a1_2]] w fun e w' => e = .returned (.agg #[.int .i64 r1, .int .i64 r2, .bool r3]) ∧ Below w.heap.size w w' := by
 have hu28 := Tryz.underlying28
 have HB := Aside0.mk (Below.refl w.heap.size w)
 have H : (if a0_2 = true then (some (a1_0, a1_1, a1_2)) else (if a1_2 = true then (some (a0_0, a0_1, a0_2)) else ((impl_slopeOf.f k a0_0 a0_1 a0_2 a1_0 a1_1 a1_2).bind fun bt137 => (if bt137.2 = true then ((impl_FpMul.f bt137.1 bt137.1).bind fun t139 => ((impl_FpSub.f t139 a0_0).bind fun t140 => ((impl_FpSub.f t140 a1_0).bind fun t141 => ((impl_FpSub.f a0_0 t141).bind fun t142 => ((impl_FpMul.f bt137.1 t142).bind fun t143 => ((impl_FpSub.f t143 a0_1).bind fun t144 => (some (t141, t144, false)))))))) else (some (0, 0, true)))))) = some (r1, r2, r3) := h
 clear h
 by_cases c3 : a0_2 = true
 ·subst c3
  rw [if_pos rfl] at H
  simp only [Option.some.injEq, Prod.mk.injEq] at H
  obtain ⟨rfl, rfl, rfl⟩ := H
  go_enter Tryz.func48, Tryz.ntmps48
  go_wp2_with (first | (refine gB 2 #[.int .i64 a0_0, .int .i64 a0_1, .bool true] 28 ?_; intro gb134 hg w4 BK134 hb; have GW134 := bG HB hg; replace HB := bS HB hb; clear hb hg) | (refine gB 3 #[.int .i64 a1_0, .int .i64 a1_1, .bool a1_2] 28 ?_; intro gb135 hg w5 BK135 hb; have GW135 := bG HB hg; replace HB := bS HB hb; obtain ⟨NB134_135, NB135_134⟩ := bN BK134 hg; replace BK134 := bB BK134 hb; clear hb hg) | (refine gB 4 #[.int .i64 0, .int .i64 0, .bool false] 28 ?_; intro gb136 hg w6 BK136 hb; have GW136 := bG HB hg; replace HB := bS HB hb; obtain ⟨NB134_136, NB136_134⟩ := bN BK134 hg; replace BK134 := bB BK134 hb; obtain ⟨NB135_136, NB136_135⟩ := bN BK135 hg; replace BK135 := bB BK135 hb; clear hb hg; obtain ⟨hnb7, hnc7⟩ := nB NB134_135; obtain ⟨hnb8, hnc8⟩ := nB NB134_136; obtain ⟨hcz9_0, hcz9_1, hcz9_2, hfz9_0, hfz9_1, hfz9_2⟩ := bK3 (w := w6) BK134; obtain ⟨hnb10, hnc10⟩ := nB NB135_136; obtain ⟨hcz11_0, hcz11_1, hcz11_2, hfz11_0, hfz11_1, hfz11_2⟩ := bK3 (w := w6) BK135; obtain ⟨hcz12_0, hcz12_1, hcz12_2, hfz12_0, hfz12_1, hfz12_2⟩ := bK3 (w := w6) BK136))
  refine rC gb136 28 #[.int .i64 a1_0, .int .i64 a1_1, .bool a1_2] (bU BK136) Tryz.underlying28 ?_
  exact ⟨rR, bZ HB⟩
 ·replace c3 := Bool.eq_false_iff.mpr c3
  subst c3
  rw [if_neg (show ¬ (false = true) by decide)] at H
  by_cases c13 : a1_2 = true
  ·subst c13
   rw [if_pos rfl] at H
   simp only [Option.some.injEq, Prod.mk.injEq] at H
   obtain ⟨rfl, rfl, rfl⟩ := H
   go_enter Tryz.func48, Tryz.ntmps48
   go_wp2_with (first | (refine gB 2 #[.int .i64 a0_0, .int .i64 a0_1, .bool false] 28 ?_; intro gb134 hg w14 BK134 hb; have GW134 := bG HB hg; replace HB := bS HB hb; clear hb hg) | (refine gB 3 #[.int .i64 a1_0, .int .i64 a1_1, .bool true] 28 ?_; intro gb135 hg w15 BK135 hb; have GW135 := bG HB hg; replace HB := bS HB hb; obtain ⟨NB134_135, NB135_134⟩ := bN BK134 hg; replace BK134 := bB BK134 hb; clear hb hg) | (refine gB 4 #[.int .i64 0, .int .i64 0, .bool false] 28 ?_; intro gb136 hg w16 BK136 hb; have GW136 := bG HB hg; replace HB := bS HB hb; obtain ⟨NB134_136, NB136_134⟩ := bN BK134 hg; replace BK134 := bB BK134 hb; obtain ⟨NB135_136, NB136_135⟩ := bN BK135 hg; replace BK135 := bB BK135 hb; clear hb hg; obtain ⟨hnb17, hnc17⟩ := nB NB134_135; obtain ⟨hnb18, hnc18⟩ := nB NB134_136; obtain ⟨hcz19_0, hcz19_1, hcz19_2, hfz19_0, hfz19_1, hfz19_2⟩ := bK3 (w := w16) BK134; obtain ⟨hnb20, hnc20⟩ := nB NB135_136; obtain ⟨hcz21_0, hcz21_1, hcz21_2, hfz21_0, hfz21_1, hfz21_2⟩ := bK3 (w := w16) BK135; obtain ⟨hcz22_0, hcz22_1, hcz22_2, hfz22_0, hfz22_1, hfz22_2⟩ := bK3 (w := w16) BK136))
   refine rC gb136 28 #[.int .i64 a0_0, .int .i64 a0_1, .bool false] (bU BK136) Tryz.underlying28 ?_
   exact ⟨rR, bZ HB⟩
  ·replace c13 := Bool.eq_false_iff.mpr c13
   subst c13
   rw [if_neg (show ¬ (false = true) by decide)] at H
   replace H := Option.bind_eq_some_iff.mp H
   obtain ⟨⟨t137, t138⟩, A230, H⟩ := H
   have A23 := Aside0.mk A230
   clear A230
   by_cases c24 : t138 = true
   ·subst c24
    rw [if_pos rfl] at H
    replace H := Option.bind_eq_some_iff.mp H
    obtain ⟨t139, A250, H⟩ := H
    have A25 := Aside0.mk A250
    clear A250
    replace H := Option.bind_eq_some_iff.mp H
    obtain ⟨t140, A260, H⟩ := H
    have A26 := Aside0.mk A260
    clear A260
    replace H := Option.bind_eq_some_iff.mp H
    obtain ⟨t141, A270, H⟩ := H
    have A27 := Aside0.mk A270
    clear A270
    replace H := Option.bind_eq_some_iff.mp H
    obtain ⟨t142, A280, H⟩ := H
    have A28 := Aside0.mk A280
    clear A280
    replace H := Option.bind_eq_some_iff.mp H
    obtain ⟨t143, A290, H⟩ := H
    have A29 := Aside0.mk A290
    clear A290
    replace H := Option.bind_eq_some_iff.mp H
    obtain ⟨t144, A300, H⟩ := H
    have A30 := Aside0.mk A300
    clear A300
    simp only [Option.some.injEq, Prod.mk.injEq] at H
    obtain ⟨rfl, rfl, rfl⟩ := H
    go_enter Tryz.func48, Tryz.ntmps48
    try go_wp2_with (first | (refine gB 2 #[.int .i64 a0_0, .int .i64 a0_1, .bool false] 28 ?_; intro gb134 hg w31 BK134 hb; have GW134 := bG HB hg; replace HB := bS HB hb; clear hb hg) | (refine gB 3 #[.int .i64 a1_0, .int .i64 a1_1, .bool false] 28 ?_; intro gb135 hg w32 BK135 hb; have GW135 := bG HB hg; replace HB := bS HB hb; obtain ⟨NB134_135, NB135_134⟩ := bN BK134 hg; replace BK134 := bB BK134 hb; clear hb hg) | (refine gB 4 #[.int .i64 0, .int .i64 0, .bool false] 28 ?_; intro gb136 hg w33 BK136 hb; have GW136 := bG HB hg; replace HB := bS HB hb; obtain ⟨NB134_136, NB136_134⟩ := bN BK134 hg; replace BK134 := bB BK134 hb; obtain ⟨NB135_136, NB136_135⟩ := bN BK135 hg; replace BK135 := bB BK135 hb; clear hb hg; obtain ⟨hnb34, hnc34⟩ := nB NB134_135; obtain ⟨hnb35, hnc35⟩ := nB NB134_136; obtain ⟨hcz36_0, hcz36_1, hcz36_2, hfz36_0, hfz36_1, hfz36_2⟩ := bK3 (w := w33) BK134; obtain ⟨hnb37, hnc37⟩ := nB NB135_136; obtain ⟨hcz38_0, hcz38_1, hcz38_2, hfz38_0, hfz38_1, hfz38_2⟩ := bK3 (w := w33) BK135) | (refine gC (some 17) Tryz.func89 #[.agg #[.int .i64 a0_0, .int .i64 a0_1, .bool false], .agg #[.int .i64 a1_0, .int .i64 a1_1, .bool false]] ?_; (with_reducible refine (impl_slopeOf.calls k a0_0 a0_1 false a1_0 a1_1 false t137 true _ A23.out).mono ?_); rintro e w39 ⟨rfl, hb⟩; refine ⟨_, rfl, ?_⟩; replace BK134 := bB BK134 hb; replace BK135 := bB BK135 hb; replace BK136 := bB BK136 hb; replace HB := bS HB hb; (try clear hb)))
    replace BK134 := Aside0.mk (blk_drew BK134.out)
    replace BK135 := Aside0.mk (blk_drew BK135.out)
    replace BK136 := Aside0.mk (blk_drew BK136.out)
    replace HB := Aside0.mk (below_drew1 HB.out)
    refine start_ (n := 10) (S := fun w' => SP3 w' gb134 (.int .i64 a0_0) (.int .i64 a0_1) (.bool false) (SQ3 w' gb135 (.int .i64 a1_0) (.int .i64 a1_1) (.bool false))) (ds := []) #[false, false, false, false, false, false, false, false, false, false] (by kernel_rfl) rfl rfl (bS3 BK134 (bT3 BK135)) (fun hHeld => ?_); refine with_tabW impl_add.tab8 impl_add.bits8 (fun HT_ HW_ => ?_)
    generalize w39.drew = w40 at BK134 BK135 BK136 HB hHeld ⊢
    refine pI 0 (some 23) HT_.out ?_
    refine pI 1 (some 24) HT_.out ?_
    refine pI 3 (some 26) HT_.out ?_
    refine pI 6 (some 29) HT_.out ?_
    refine tI6 4 (some 27) HT_.out HW_.out hHeld ?_
    refine tI6 7 (some 30) HT_.out HW_.out hHeld ?_
    refine oI 2 (some 25) HT_.out (fun K hK => ?_)
    refine gO Tryz.func88 #[.int .i64 t137, .int .i64 t137] ?_
    with_reducible refine (impl_FpMul.calls t137 t137 t139 _ A25.out).mono ?_
    rintro e w' ⟨rfl, ⟨nd, rfl⟩⟩
    refine ⟨_, rfl, ?_⟩
    refine hK.out _ _ (bS3 BK134 (bT3 BK135)) (fun hHeld => ?_)
    clear hK K
    refine nO (some 25) ?_
    refine oI 5 (some 28) HT_.out (fun K hK => ?_)
    refine gO Tryz.func90 #[.int .i64 t139, .int .i64 a0_0] ?_
    with_reducible refine (impl_FpSub.calls t139 a0_0 t140 _ A26.out).mono ?_
    rintro e w' ⟨rfl, ⟨nd, rfl⟩⟩
    refine ⟨_, rfl, ?_⟩
    refine hK.out _ _ (bS3 BK134 (bT3 BK135)) (fun hHeld => ?_)
    clear hK K
    refine nO (some 28) ?_
    refine oI 8 (some 31) HT_.out (fun K hK => ?_)
    refine gO Tryz.func90 #[.int .i64 t140, .int .i64 a1_0] ?_
    with_reducible refine (impl_FpSub.calls t140 a1_0 t141 _ A27.out).mono ?_
    rintro e w' ⟨rfl, ⟨nd, rfl⟩⟩
    refine ⟨_, rfl, ?_⟩
    refine hK.out _ _ (bS3 BK134 (bT3 BK135)) (fun hHeld => ?_)
    clear hK K
    refine nO (some 31) ?_
    refine pI 9 (some 7) HT_.out ?_
    refine done_ (done_of HT_.out (by kernel_rfl)) ?_
    try go_wp2
    (try simp only [World.drewN_drewN]); (try (rw [drewN_self w40]; generalize hq_ : World.drewN w40 _ = w40; replace BK134 : Aside0 (w40.heap[gb134]? = some (.cells #[.int .i64 a0_0, .int .i64 a0_1, .bool false] 28 (0, 0))) := ⟨by rw [← hq_]; exact (bP BK134)⟩; replace BK135 : Aside0 (w40.heap[gb135]? = some (.cells #[.int .i64 a1_0, .int .i64 a1_1, .bool false] 28 (0, 0))) := ⟨by rw [← hq_]; exact (bP BK135)⟩; replace BK136 : Aside0 (w40.heap[gb136]? = some (.cells #[.int .i64 0, .int .i64 0, .bool false] 28 (0, 0))) := ⟨by rw [← hq_]; exact (bP BK136)⟩; replace HB : Aside0 (Below w.heap.size w w40) := ⟨by rw [← hq_]; exact (bZ HB)⟩; clear hq_))
    replace BK134 := Aside0.mk (blk_drew BK134.out)
    replace BK135 := Aside0.mk (blk_drew BK135.out)
    replace BK136 := Aside0.mk (blk_drew BK136.out)
    replace HB := Aside0.mk (below_drew1 HB.out)
    refine start_ (n := 12) (S := fun w' => SQ3 w' gb134 (.int .i64 a0_0) (.int .i64 a0_1) (.bool false)) (ds := []) #[false, false, false, false, false, false, false, false, false, false, false, false] (by kernel_rfl) rfl rfl (bT3 BK134) (fun hHeld => ?_); refine with_tabW impl_add.tab9 impl_add.bits9 (fun HT_ HW_ => ?_)
    generalize w40.drew = w41 at BK134 BK135 BK136 HB hHeld ⊢
    refine pI 0 (some 32) HT_.out ?_
    refine pI 1 (some 33) HT_.out ?_
    refine pI 2 (some 34) HT_.out ?_
    refine pI 4 (some 36) HT_.out ?_
    refine pI 7 (some 39) HT_.out ?_
    refine tI3 3 (some 35) HT_.out HW_.out hHeld ?_
    refine tI3 8 (some 40) HT_.out HW_.out hHeld ?_
    refine oI 5 (some 37) HT_.out (fun K hK => ?_)
    refine gO Tryz.func90 #[.int .i64 a0_0, .int .i64 t141] ?_
    with_reducible refine (impl_FpSub.calls a0_0 t141 t142 _ A28.out).mono ?_
    rintro e w' ⟨rfl, ⟨nd, rfl⟩⟩
    refine ⟨_, rfl, ?_⟩
    refine hK.out _ _ (bT3 BK134) (fun hHeld => ?_)
    clear hK K
    refine nO (some 37) ?_
    refine oI 6 (some 38) HT_.out (fun K hK => ?_)
    refine gO Tryz.func88 #[.int .i64 t137, .int .i64 t142] ?_
    with_reducible refine (impl_FpMul.calls t137 t142 t143 _ A29.out).mono ?_
    rintro e w' ⟨rfl, ⟨nd, rfl⟩⟩
    refine ⟨_, rfl, ?_⟩
    refine hK.out _ _ (bT3 BK134) (fun hHeld => ?_)
    clear hK K
    refine nO (some 38) ?_
    refine oI 9 (some 41) HT_.out (fun K hK => ?_)
    refine gO Tryz.func90 #[.int .i64 t143, .int .i64 a0_1] ?_
    with_reducible refine (impl_FpSub.calls t143 a0_1 t144 _ A30.out).mono ?_
    rintro e w' ⟨rfl, ⟨nd, rfl⟩⟩
    refine ⟨_, rfl, ?_⟩
    refine hK.out _ _ (bT3 BK134) (fun hHeld => ?_)
    clear hK K
    refine nO (some 41) ?_
    refine pI 10 (some 42) HT_.out ?_
    refine oI 11 (none) HT_.out (fun K hK => ?_)
    have hs42 : w41.cell? ⟨gb136, 0, none⟩ = some (.int .i64 0) := bc BK136 0
    have hfs42 := blk_frozen BK136.out 0
    have hns42_0 := NB134_136.out
    have hns42_1 := NB135_136.out
    have hms42_0 := NB136_134.out
    have hms42_1 := NB136_135.out
    have hs43 : w41.cell? ⟨gb136, 1, none⟩ = some (.int .i64 0) := bc BK136 1
    have hfs43 := blk_frozen BK136.out 1
    have hns43_0 := NB134_136.out
    have hns43_1 := NB135_136.out
    have hms43_0 := NB136_134.out
    have hms43_1 := NB136_135.out
    have hs44 : w41.cell? ⟨gb136, 2, none⟩ = some (.bool false) := bc BK136 2
    have hfs44 := blk_frozen BK136.out 2
    have hns44_0 := NB134_136.out
    have hns44_1 := NB135_136.out
    have hms44_0 := NB136_134.out
    have hms44_1 := NB136_135.out
    refine skip_ (w1 := ?_) (by rfl) rfl ?_ ?_
    rotate_left
    ·go_simp
     rfl
    refine hK.out _ _ ⟨((cell_far (p := ⟨gb136, _, none⟩) NB134_136.out _).trans (((cell_far (p := ⟨gb136, _, none⟩) NB134_136.out _).trans (((cell_far (p := ⟨gb136, _, none⟩) NB134_136.out _).trans (hHeld.1)))))), ((cell_far (p := ⟨gb136, _, none⟩) NB134_136.out _).trans (((cell_far (p := ⟨gb136, _, none⟩) NB134_136.out _).trans (((cell_far (p := ⟨gb136, _, none⟩) NB134_136.out _).trans (hHeld.2.1)))))), ((cell_far (p := ⟨gb136, _, none⟩) NB134_136.out _).trans (((cell_far (p := ⟨gb136, _, none⟩) NB134_136.out _).trans (((cell_far (p := ⟨gb136, _, none⟩) NB134_136.out _).trans (hHeld.2.2))))))⟩ (fun hHeld => ?_)
    clear hK K
    refine done_ (done_of HT_.out (by kernel_rfl)) ?_
    try go_wp2
    refine rC gb136 28 #[.int .i64 t141, .int .i64 t144, .bool false] (bU BK136) Tryz.underlying28 ?_
    exact ⟨rR, bZ HB⟩
   ·replace c24 := Bool.eq_false_iff.mpr c24
    subst c24
    rw [if_neg (show ¬ (false = true) by decide)] at H
    simp only [Option.some.injEq, Prod.mk.injEq] at H
    obtain ⟨rfl, rfl, rfl⟩ := H
    go_enter Tryz.func48, Tryz.ntmps48
    go_wp2_with (first | (refine gB 2 #[.int .i64 a0_0, .int .i64 a0_1, .bool false] 28 ?_; intro gb134 hg w45 BK134 hb; have GW134 := bG HB hg; replace HB := bS HB hb; clear hb hg) | (refine gB 3 #[.int .i64 a1_0, .int .i64 a1_1, .bool false] 28 ?_; intro gb135 hg w46 BK135 hb; have GW135 := bG HB hg; replace HB := bS HB hb; obtain ⟨NB134_135, NB135_134⟩ := bN BK134 hg; replace BK134 := bB BK134 hb; clear hb hg) | (refine gB 4 #[.int .i64 0, .int .i64 0, .bool false] 28 ?_; intro gb136 hg w47 BK136 hb; have GW136 := bG HB hg; replace HB := bS HB hb; obtain ⟨NB134_136, NB136_134⟩ := bN BK134 hg; replace BK134 := bB BK134 hb; obtain ⟨NB135_136, NB136_135⟩ := bN BK135 hg; replace BK135 := bB BK135 hb; clear hb hg; obtain ⟨hnb48, hnc48⟩ := nB NB134_135; obtain ⟨hnb49, hnc49⟩ := nB NB134_136; obtain ⟨hcz50_0, hcz50_1, hcz50_2, hfz50_0, hfz50_1, hfz50_2⟩ := bK3 (w := w47) BK134; obtain ⟨hnb51, hnc51⟩ := nB NB135_136; obtain ⟨hcz52_0, hcz52_1, hcz52_2, hfz52_0, hfz52_1, hfz52_2⟩ := bK3 (w := w47) BK135) | (refine gC (some 17) Tryz.func89 #[.agg #[.int .i64 a0_0, .int .i64 a0_1, .bool false], .agg #[.int .i64 a1_0, .int .i64 a1_1, .bool false]] ?_; (with_reducible refine (impl_slopeOf.calls k a0_0 a0_1 false a1_0 a1_1 false t137 false _ A23.out).mono ?_); rintro e w53 ⟨rfl, hb⟩; refine ⟨_, rfl, ?_⟩; replace BK134 := bB BK134 hb; replace BK135 := bB BK135 hb; replace BK136 := bB BK136 hb; replace HB := bS HB hb; (try clear hb); obtain ⟨hcz54_0, hcz54_1, hcz54_2, hfz54_0, hfz54_1, hfz54_2⟩ := bK3 (w := w53) BK136))
    refine rC gb136 28 #[.int .i64 0, .int .i64 0, .bool true] (bU BK136) Tryz.underlying28 ?_
    exact ⟨rR, bZ HB⟩
def impl_PointTimes.l0 : Nat → Int → Int → Int → Bool → Int → Int → Bool → Option (Int × Int × Bool)
 | 0, _, _, _, _, _, _, _ => none
 | k + 1, x0, x146000, x146001, x146002, x148000, x148001, x148002 => if x0 > 0 then (if (Int.tmod x0 2) = 1 then ((impl_add.f k x148000 x148001 x148002 x146000 x146001 x146002).bind fun bt150 => ((impl_add.f k x146000 x146001 x146002 x146000 x146001 x146002).bind fun bt153 => (impl_PointTimes.l0 k (wrap64 (Int.tdiv x0 2)) bt153.1 bt153.2.1 bt153.2.2 bt150.1 bt150.2.1 bt150.2.2))) else ((impl_add.f k x146000 x146001 x146002 x146000 x146001 x146002).bind fun bt156 => (impl_PointTimes.l0 k (wrap64 (Int.tdiv x0 2)) bt156.1 bt156.2.1 bt156.2.2 x148000 x148001 x148002))) else (some (x148000, x148001, x148002))
def impl_PointTimes.f (k : Nat) (a0 : Int) (a1_0 : Int) (a1_1 : Int) (a1_2 : Bool) : Option (Int × Int × Bool) := (impl_PointOk.f a1_0 a1_1 a1_2).bind fun t148 => (if t148 = true then ((impl_remainder.f a0 12108).bind fun t149 => (impl_PointTimes.l0 k t149 a1_0 a1_1 a1_2 0 0 true)) else (some (0, 0, true)))
set_option maxHeartbeats 8000000 in
set_option maxRecDepth 100000 in
theorem impl_PointTimes.calls (k : Nat) (a0 : Int) (a1_0 : Int) (a1_1 : Int) (a1_2 : Bool) (r1 : Int) (r2 : Int) (r3 : Bool) (w : World) (h : impl_PointTimes.f k a0 a1_0 a1_1 a1_2 = some (r1, r2, r3)) :
  Calls Tryz.prog 45 #[.int .i64 a0, .agg #[.int .i64 a1_0, .int .i64 a1_1, .bool a1_2]] w fun e w' => e = .returned (.agg #[.int .i64 r1, .int .i64 r2, .bool r3]) ∧ Below w.heap.size w w' := by
 have hu28 := Tryz.underlying28
 have HB := Aside0.mk (Below.refl w.heap.size w)
 have H : ((impl_PointOk.f a1_0 a1_1 a1_2).bind fun t148 => (if t148 = true then ((impl_remainder.f a0 12108).bind fun t149 => (impl_PointTimes.l0 k t149 a1_0 a1_1 a1_2 0 0 true)) else (some (0, 0, true)))) = some (r1, r2, r3) := h
 clear h
 replace H := Option.bind_eq_some_iff.mp H
 obtain ⟨t148, A30, H⟩ := H
 have A3 := Aside0.mk A30
 clear A30
 by_cases c4 : t148 = true
 ·subst c4
  rw [if_pos rfl] at H
  replace H := Option.bind_eq_some_iff.mp H
  obtain ⟨t149, A50, H⟩ := H
  have A5 := Aside0.mk A50
  clear A50
  have H' := Aside0.mk H
  clear H
  go_enter Tryz.func45, Tryz.ntmps45
  go_wp2_with (first | (refine gB 3 #[.int .i64 a1_0, .int .i64 a1_1, .bool a1_2] 28 ?_; intro gb145 hg w6 BK145 hb; have GW145 := bG HB hg; replace HB := bS HB hb; clear hb hg) | (refine gB 4 #[.int .i64 0, .int .i64 0, .bool false] 28 ?_; intro gb146 hg w7 BK146 hb; have GW146 := bG HB hg; replace HB := bS HB hb; obtain ⟨NB145_146, NB146_145⟩ := bN BK145 hg; replace BK145 := bB BK145 hb; clear hb hg) | (refine gB 5 #[.int .i64 0, .int .i64 0, .bool false] 28 ?_; intro gb147 hg w8 BK147 hb; have GW147 := bG HB hg; replace HB := bS HB hb; obtain ⟨NB145_147, NB147_145⟩ := bN BK145 hg; replace BK145 := bB BK145 hb; obtain ⟨NB146_147, NB147_146⟩ := bN BK146 hg; replace BK146 := bB BK146 hb; clear hb hg; obtain ⟨hnb9, hnc9⟩ := nB NB147_145; obtain ⟨hnb10, hnc10⟩ := nB NB147_146; obtain ⟨hcz11_0, hcz11_1, hcz11_2, hfz11_0, hfz11_1, hfz11_2⟩ := bK3 (w := w8) BK147; obtain ⟨hnb12, hnc12⟩ := nB NB145_146; obtain ⟨hcz13_0, hcz13_1, hcz13_2, hfz13_0, hfz13_1, hfz13_2⟩ := bK3 (w := w8) BK145) | (refine gC (some 8) Tryz.func47 #[.agg #[.int .i64 a1_0, .int .i64 a1_1, .bool a1_2]] ?_; (with_reducible refine (impl_PointOk.calls a1_0 a1_1 a1_2 true _ A3.out).mono ?_); rintro e w14 ⟨rfl, hb⟩; refine ⟨_, rfl, ?_⟩; replace BK145 := bB BK145 hb; replace BK146 := bB BK146 hb; replace BK147 := bV 28 #[.int .i64 0, .int .i64 0, .bool true] BK147 hb; replace HB := bS HB hb; (try clear hb)) | (refine gC (some 12) Tryz.func86 #[.int .i64 a0, .int .i64 12108] ?_; (with_reducible refine (impl_remainder.calls a0 12108 t149 _ A5.out).mono ?_); rintro e w' ⟨rfl, ⟨nd, rfl⟩⟩; refine ⟨_, rfl, ?_⟩))
  go_loopg [0] k (fun kq v0 w' => ∃ (x0_1 : Int) (x146000_1 : Int) (x146001_1 : Int) (x146002_1 : Bool) (x148000_1 : Int) (x148001_1 : Int) (x148002_1 : Bool), v0 = .int .i64 x0_1 ∧ Aside0 (impl_PointTimes.l0 kq x0_1 x146000_1 x146001_1 x146002_1 x148000_1 x148001_1 x148002_1 = some (r1, r2, r3)) ∧ Aside0 (kq ≤ k) ∧ Aside0 (w'.heap[gb145]? = some (.cells #[.int .i64 x146000_1, .int .i64 x146001_1, .bool x146002_1] 28 (0, 0))) ∧ Aside0 (w'.heap[gb146]? = some (.cells #[.int .i64 0, .int .i64 0, .bool false] 28 (0, 0))) ∧ Aside0 (w'.heap[gb147]? = some (.cells #[.int .i64 x148000_1, .int .i64 x148001_1, .bool x148002_1] 28 (0, 0))) ∧ Aside0 (Below w.heap.size w w'))
  case atStart => exact ⟨(t149), (a1_0), (a1_1), (a1_2), (0), (0), (true), rS, H', ⟨Nat.le_refl _⟩, ⟨bP BK145⟩, ⟨bP BK146⟩, ⟨bP BK147⟩, ⟨bZ HB⟩⟩
  case round =>
   clear H'
   try clear c1
   try clear p2
   try clear c4
   try clear c8
   try clear c9
   try clear c10
   try clear c12
   try clear hcz11_0
   try clear hcz11_1
   try clear hcz11_2
   try clear hcz13_0
   try clear hcz13_1
   try clear hcz13_2
   try clear hfz11_0
   try clear hfz11_1
   try clear hfz11_2
   try clear hfz13_0
   try clear hfz13_1
   try clear hfz13_2
   obtain ⟨x0_1, x146000_1, x146001_1, x146002_1, x148000_1, x148001_1, x148002_1, rfl, HA, HK1, BK145, BK146, BK147, HB⟩ := hrel
   cases gk with
   | zero => exact absurd HA.out (by simp [impl_PointTimes.l0])
   | succ k1 =>
    have H := HA.out
    clear HA
    simp only [impl_PointTimes.l0] at H
    by_cases c15 : x0_1 > 0
    ·rw [if_pos c15] at H
     have c15b0 := decide_eq_true c15
     clear c15
     by_cases c16 : (Int.tmod x0_1 2) = 1
     ·rw [if_pos c16] at H
      have c16b0 : ((Int.tmod x0_1 2) == 1) = true := beq_iff_eq.mpr c16
      have c16b1 : ((Int.tmod x0_1 2) != 1) = false := bne_eq_false_iff_eq.mpr c16
      clear c16
      replace H := Option.bind_eq_some_iff.mp H
      obtain ⟨⟨t150, t151, t152⟩, A170, H⟩ := H
      have A17 := Aside0.mk A170
      clear A170
      replace H := Option.bind_eq_some_iff.mp H
      obtain ⟨⟨t153, t154, t155⟩, A180, H⟩ := H
      have A18 := Aside0.mk A180
      clear A180
      have H' := Aside0.mk H
      clear H
      obtain ⟨hnb19, hnc19⟩ := nB NB147_145
      obtain ⟨hnb20, hnc20⟩ := nB NB147_146
      obtain ⟨hcz21_0, hcz21_1, hcz21_2, hfz21_0, hfz21_1, hfz21_2⟩ := bK3 (w := wr) BK147
      obtain ⟨hnb22, hnc22⟩ := nB NB145_146
      obtain ⟨hcz23_0, hcz23_1, hcz23_2, hfz23_0, hfz23_1, hfz23_2⟩ := bK3 (w := wr) BK145
      go_wp2_with (first | (refine gC (some 22) Tryz.func48 #[.agg #[.int .i64 x148000_1, .int .i64 x148001_1, .bool x148002_1], .agg #[.int .i64 x146000_1, .int .i64 x146001_1, .bool x146002_1]] ?_; (with_reducible refine (impl_add.calls k1 x148000_1 x148001_1 x148002_1 x146000_1 x146001_1 x146002_1 t150 t151 t152 _ A17.out).mono ?_); rintro e w24 ⟨rfl, hb⟩; refine ⟨_, rfl, ?_⟩; replace BK145 := bB BK145 hb; replace BK146 := bB BK146 hb; replace BK147 := bB BK147 hb; replace HB := bS HB hb; (try clear hb); obtain ⟨hcz25_0, hcz25_1, hcz25_2, hfz25_0, hfz25_1, hfz25_2⟩ := bK3 (w := w24) BK147; obtain ⟨hcz26_0, hcz26_1, hcz26_2, hfz26_0, hfz26_1, hfz26_2⟩ := bK3 (w := w24) BK145) | (refine gC (some 25) Tryz.func48 #[.agg #[.int .i64 x146000_1, .int .i64 x146001_1, .bool x146002_1], .agg #[.int .i64 x146000_1, .int .i64 x146001_1, .bool x146002_1]] ?_; (with_reducible refine (impl_add.calls k1 x146000_1 x146001_1 x146002_1 x146000_1 x146001_1 x146002_1 t153 t154 t155 _ A18.out).mono ?_); rintro e w27 ⟨rfl, hb⟩; refine ⟨_, rfl, ?_⟩; replace BK145 := bB BK145 hb; replace BK146 := bB BK146 hb; replace BK147 := bV 28 #[.int .i64 t150, .int .i64 t151, .bool t152] BK147 hb; replace HB := bS HB hb; (try clear hb); obtain ⟨hcz28_0, hcz28_1, hcz28_2, hfz28_0, hfz28_1, hfz28_2⟩ := bK3 (w := w27) BK145))
      go_roundg k1
      case measure => have := HK1.out; omega
      case rel => exact ⟨(wrap64 (Int.tdiv x0_1 2)), (t153), (t154), (t155), (t150), (t151), (t152), rS, H', ⟨by have := HK1.out; omega⟩, ⟨bU BK145⟩, ⟨bP BK146⟩, ⟨bP BK147⟩, ⟨bZ HB⟩⟩
     ·rw [if_neg c16] at H
      have c16b0 : ((Int.tmod x0_1 2) == 1) = false := beq_eq_false_iff_ne.mpr c16
      have c16b1 : ((Int.tmod x0_1 2) != 1) = true := bne_iff_ne.mpr c16
      replace H := Option.bind_eq_some_iff.mp H
      obtain ⟨⟨t156, t157, t158⟩, A290, H⟩ := H
      have A29 := Aside0.mk A290
      clear A290
      have H' := Aside0.mk H
      clear H
      obtain ⟨hnb30, hnc30⟩ := nB NB145_146
      obtain ⟨hnb31, hnc31⟩ := nB NB145_147
      obtain ⟨hcz32_0, hcz32_1, hcz32_2, hfz32_0, hfz32_1, hfz32_2⟩ := bK3 (w := wr) BK145
      go_wp2_with (first | (refine gC (some 25) Tryz.func48 #[.agg #[.int .i64 x146000_1, .int .i64 x146001_1, .bool x146002_1], .agg #[.int .i64 x146000_1, .int .i64 x146001_1, .bool x146002_1]] ?_; (with_reducible refine (impl_add.calls k1 x146000_1 x146001_1 x146002_1 x146000_1 x146001_1 x146002_1 t156 t157 t158 _ A29.out).mono ?_); rintro e w33 ⟨rfl, hb⟩; refine ⟨_, rfl, ?_⟩; replace BK145 := bB BK145 hb; replace BK146 := bB BK146 hb; replace BK147 := bB BK147 hb; replace HB := bS HB hb; (try clear hb); obtain ⟨hcz34_0, hcz34_1, hcz34_2, hfz34_0, hfz34_1, hfz34_2⟩ := bK3 (w := w33) BK145))
      go_roundg k1
      case measure => have := HK1.out; omega
      case rel => exact ⟨(wrap64 (Int.tdiv x0_1 2)), (t156), (t157), (t158), (x148000_1), (x148001_1), (x148002_1), rS, H', ⟨by have := HK1.out; omega⟩, ⟨bU BK145⟩, ⟨bP BK146⟩, ⟨bP BK147⟩, ⟨bZ HB⟩⟩
    ·rw [if_neg c15] at H
     have c15b0 := decide_eq_false c15
     clear c15
     simp only [Option.some.injEq, Prod.mk.injEq] at H
     obtain ⟨rfl, rfl, rfl⟩ := H
     obtain ⟨hnb35, hnc35⟩ := nB NB147_145
     obtain ⟨hnb36, hnc36⟩ := nB NB147_146
     obtain ⟨hcz37_0, hcz37_1, hcz37_2, hfz37_0, hfz37_1, hfz37_2⟩ := bK3 (w := wr) BK147
     obtain ⟨hnb38, hnc38⟩ := nB NB146_145
     obtain ⟨hcz39_0, hcz39_1, hcz39_2, hfz39_0, hfz39_1, hfz39_2⟩ := bK3 (w := wr) BK146
     go_wp2
     refine rC gb146 28 #[.int .i64 x148000_1, .int .i64 x148001_1, .bool x148002_1] (bU BK146) Tryz.underlying28 ?_
     exact ⟨rR, bZ HB⟩
 ·replace c4 := Bool.eq_false_iff.mpr c4
  subst c4
  rw [if_neg (show ¬ (false = true) by decide)] at H
  simp only [Option.some.injEq, Prod.mk.injEq] at H
  obtain ⟨rfl, rfl, rfl⟩ := H
  go_enter Tryz.func45, Tryz.ntmps45
  go_wp2_with (first | (refine gB 3 #[.int .i64 a1_0, .int .i64 a1_1, .bool a1_2] 28 ?_; intro gb145 hg w40 BK145 hb; have GW145 := bG HB hg; replace HB := bS HB hb; clear hb hg) | (refine gB 4 #[.int .i64 0, .int .i64 0, .bool false] 28 ?_; intro gb146 hg w41 BK146 hb; have GW146 := bG HB hg; replace HB := bS HB hb; obtain ⟨NB145_146, NB146_145⟩ := bN BK145 hg; replace BK145 := bB BK145 hb; clear hb hg) | (refine gB 5 #[.int .i64 0, .int .i64 0, .bool false] 28 ?_; intro gb147 hg w42 BK147 hb; have GW147 := bG HB hg; replace HB := bS HB hb; obtain ⟨NB145_147, NB147_145⟩ := bN BK145 hg; replace BK145 := bB BK145 hb; obtain ⟨NB146_147, NB147_146⟩ := bN BK146 hg; replace BK146 := bB BK146 hb; clear hb hg; obtain ⟨hnb43, hnc43⟩ := nB NB147_145; obtain ⟨hnb44, hnc44⟩ := nB NB147_146; obtain ⟨hcz45_0, hcz45_1, hcz45_2, hfz45_0, hfz45_1, hfz45_2⟩ := bK3 (w := w42) BK147; obtain ⟨hnb46, hnc46⟩ := nB NB145_146; obtain ⟨hcz47_0, hcz47_1, hcz47_2, hfz47_0, hfz47_1, hfz47_2⟩ := bK3 (w := w42) BK145) | (refine gC (some 8) Tryz.func47 #[.agg #[.int .i64 a1_0, .int .i64 a1_1, .bool a1_2]] ?_; (with_reducible refine (impl_PointOk.calls a1_0 a1_1 a1_2 false _ A3.out).mono ?_); rintro e w48 ⟨rfl, hb⟩; refine ⟨_, rfl, ?_⟩; replace BK145 := bB BK145 hb; replace BK146 := bB BK146 hb; replace BK147 := bV 28 #[.int .i64 0, .int .i64 0, .bool true] BK147 hb; replace HB := bS HB hb; (try clear hb); obtain ⟨hcz49_0, hcz49_1, hcz49_2, hfz49_0, hfz49_1, hfz49_2⟩ := bK3 (w := w48) BK147; obtain ⟨hcz50_0, hcz50_1, hcz50_2, hfz50_0, hfz50_1, hfz50_2⟩ := bK3 (w := w48) BK146))
  refine rC gb146 28 #[.int .i64 0, .int .i64 0, .bool true] (bU BK146) Tryz.underlying28 ?_
  exact ⟨rR, bZ HB⟩
def impl_ScOf.f (a0 : Int) : Option (Int) := (impl_remainder.f a0 1009).bind fun t159 => (some t159)
set_option maxHeartbeats 8000000 in
set_option maxRecDepth 100000 in
theorem impl_ScOf.calls (a0 : Int) (r : Int) (w : World) (h : impl_ScOf.f a0 = some r) :
  Calls Tryz.prog 46 #[.int .i64 a0] w fun e w' => e = .returned (.int .i64 r) ∧ Drawn0 w w' := by
 have H : ((impl_remainder.f a0 1009).bind fun t159 => (some t159)) = some r := h
 clear h
 replace H := Option.bind_eq_some_iff.mp H
 obtain ⟨t159, A20, H⟩ := H
 have A2 := Aside0.mk A20
 clear A20
 obtain rfl := Option.some.inj H
 go_enter Tryz.func46, Tryz.ntmps46
 go_wp2_with (first | (refine gC (some 4) Tryz.func86 #[.int .i64 a0, .int .i64 1009] ?_; (with_reducible refine (impl_remainder.calls a0 1009 t159 _ A2.out).mono ?_); rintro e w' ⟨rfl, ⟨nd, rfl⟩⟩; refine ⟨_, rfl, ?_⟩))
 go_ret
 exact ⟨rS, rD⟩
def impl_KeyOf.f (k : Nat) (a0 : Int) : Option (Int × Int × Bool) := (impl_ScOf.f a0).bind fun t161 => ((impl_Base.f).bind fun bt162 => ((impl_PointTimes.f k t161 bt162.1 bt162.2.1 bt162.2.2).bind fun bt165 => (some (bt165.1, bt165.2.1, bt165.2.2))))
set_option maxHeartbeats 8000000 in
set_option maxRecDepth 100000 in
theorem impl_KeyOf.calls (k : Nat) (a0 : Int) (r1 : Int) (r2 : Int) (r3 : Bool) (w : World) (h : impl_KeyOf.f k a0 = some (r1, r2, r3)) :
  Calls Tryz.prog 8 #[.int .i64 a0] w fun e w' => e = .returned (.agg #[.int .i64 r1, .int .i64 r2, .bool r3]) ∧ Below w.heap.size w w' := by
 have hu28 := Tryz.underlying28
 have HB := Aside0.mk (Below.refl w.heap.size w)
 have H : ((impl_ScOf.f a0).bind fun t161 => ((impl_Base.f).bind fun bt162 => ((impl_PointTimes.f k t161 bt162.1 bt162.2.1 bt162.2.2).bind fun bt165 => (some (bt165.1, bt165.2.1, bt165.2.2))))) = some (r1, r2, r3) := h
 clear h
 replace H := Option.bind_eq_some_iff.mp H
 obtain ⟨t161, A20, H⟩ := H
 have A2 := Aside0.mk A20
 clear A20
 replace H := Option.bind_eq_some_iff.mp H
 obtain ⟨⟨t162, t163, t164⟩, A30, H⟩ := H
 have A3 := Aside0.mk A30
 clear A30
 replace H := Option.bind_eq_some_iff.mp H
 obtain ⟨⟨t165, t166, t167⟩, A40, H⟩ := H
 have A4 := Aside0.mk A40
 clear A40
 simp only [Option.some.injEq, Prod.mk.injEq] at H
 obtain ⟨rfl, rfl, rfl⟩ := H
 go_enter Tryz.func8, Tryz.ntmps8
 go_wp2_with (first | (refine gB 2 #[.int .i64 0, .int .i64 0, .bool false] 28 ?_; intro gb160 hg w5 BK160 hb; have GW160 := bG HB hg; replace HB := bS HB hb; clear hb hg) | (refine gC (some 4) Tryz.func46 #[.int .i64 a0] ?_; (with_reducible refine (impl_ScOf.calls a0 t161 _ A2.out).mono ?_); rintro e w' ⟨rfl, ⟨nd, rfl⟩⟩; refine ⟨_, rfl, ?_⟩; (try simp only [World.drewN_drewN]); (try (rw [drewN_self w5]; generalize hq_ : World.drewN w5 _ = w5; replace BK160 : Aside0 (w5.heap[gb160]? = some (.cells #[.int .i64 0, .int .i64 0, .bool false] 28 (0, 0))) := ⟨by rw [← hq_]; exact (bP BK160)⟩; replace HB : Aside0 (Below w.heap.size w w5) := ⟨by rw [← hq_]; exact (bZ HB)⟩; clear hq_))) | (refine gC (some 5) Tryz.func20 #[] ?_; (with_reducible refine (impl_Base.calls  t162 t163 t164 _ A3.out).mono ?_); rintro e w6 ⟨rfl, hb⟩; refine ⟨_, rfl, ?_⟩; replace BK160 := bB BK160 hb; replace HB := bS HB hb; (try clear hb)) | (refine gC (some 6) Tryz.func45 #[.int .i64 t161, .agg #[.int .i64 t162, .int .i64 t163, .bool t164]] ?_; (with_reducible refine (impl_PointTimes.calls k t161 t162 t163 t164 t165 t166 t167 _ A4.out).mono ?_); rintro e w7 ⟨rfl, hb⟩; refine ⟨_, rfl, ?_⟩; replace BK160 := bB BK160 hb; replace HB := bS HB hb; (try clear hb); obtain ⟨hcz8_0, hcz8_1, hcz8_2, hfz8_0, hfz8_1, hfz8_2⟩ := bK3 (w := w7) BK160))
 refine rC gb160 28 #[.int .i64 t165, .int .i64 t166, .bool t167] (bU BK160) Tryz.underlying28 ?_
 exact ⟨rR, bZ HB⟩
def impl_PointAdd.f (k : Nat) (a0_0 : Int) (a0_1 : Int) (a0_2 : Bool) (a1_0 : Int) (a1_1 : Int) (a1_2 : Bool) : Option (Int × Int × Bool) := (impl_PointOk.f a0_0 a0_1 a0_2).bind fun t171 => (if t171 = true then ((impl_PointOk.f a1_0 a1_1 a1_2).bind fun t172 => (if t172 = true then ((impl_add.f k a0_0 a0_1 a0_2 a1_0 a1_1 a1_2).bind fun bt173 => (some (bt173.1, bt173.2.1, bt173.2.2))) else (some (0, 0, true)))) else (some (0, 0, true)))
set_option maxHeartbeats 8000000 in
set_option maxRecDepth 100000 in
theorem impl_PointAdd.calls (k : Nat) (a0_0 : Int) (a0_1 : Int) (a0_2 : Bool) (a1_0 : Int) (a1_1 : Int) (a1_2 : Bool) (r1 : Int) (r2 : Int) (r3 : Bool) (w : World) (h : impl_PointAdd.f k a0_0 a0_1 a0_2 a1_0 a1_1 a1_2 = some (r1, r2, r3)) :
  Calls Tryz.prog 9 #[.agg #[.int .i64 a0_0, .int .i64 a0_1, .bool a0_2], .agg #[.int .i64 a1_0, .int .i64 a1_1, .bool a1_2]] w fun e w' => e = .returned (.agg #[.int .i64 r1, .int .i64 r2, .bool r3]) ∧ Below w.heap.size w w' := by
 have hu28 := Tryz.underlying28
 have HB := Aside0.mk (Below.refl w.heap.size w)
 have H : ((impl_PointOk.f a0_0 a0_1 a0_2).bind fun t171 => (if t171 = true then ((impl_PointOk.f a1_0 a1_1 a1_2).bind fun t172 => (if t172 = true then ((impl_add.f k a0_0 a0_1 a0_2 a1_0 a1_1 a1_2).bind fun bt173 => (some (bt173.1, bt173.2.1, bt173.2.2))) else (some (0, 0, true)))) else (some (0, 0, true)))) = some (r1, r2, r3) := h
 clear h
 replace H := Option.bind_eq_some_iff.mp H
 obtain ⟨t171, A30, H⟩ := H
 have A3 := Aside0.mk A30
 clear A30
 by_cases c4 : t171 = true
 ·subst c4
  rw [if_pos rfl] at H
  replace H := Option.bind_eq_some_iff.mp H
  obtain ⟨t172, A50, H⟩ := H
  have A5 := Aside0.mk A50
  clear A50
  by_cases c6 : t172 = true
  ·subst c6
   rw [if_pos rfl] at H
   replace H := Option.bind_eq_some_iff.mp H
   obtain ⟨⟨t173, t174, t175⟩, A70, H⟩ := H
   have A7 := Aside0.mk A70
   clear A70
   simp only [Option.some.injEq, Prod.mk.injEq] at H
   obtain ⟨rfl, rfl, rfl⟩ := H
   go_enter Tryz.func9, Tryz.ntmps9
   go_wp2_with (first | (refine gB 2 #[.int .i64 a0_0, .int .i64 a0_1, .bool a0_2] 28 ?_; intro gb168 hg w8 BK168 hb; have GW168 := bG HB hg; replace HB := bS HB hb; clear hb hg) | (refine gB 3 #[.int .i64 a1_0, .int .i64 a1_1, .bool a1_2] 28 ?_; intro gb169 hg w9 BK169 hb; have GW169 := bG HB hg; replace HB := bS HB hb; obtain ⟨NB168_169, NB169_168⟩ := bN BK168 hg; replace BK168 := bB BK168 hb; clear hb hg) | (refine gB 4 #[.int .i64 0, .int .i64 0, .bool false] 28 ?_; intro gb170 hg w10 BK170 hb; have GW170 := bG HB hg; replace HB := bS HB hb; obtain ⟨NB168_170, NB170_168⟩ := bN BK168 hg; replace BK168 := bB BK168 hb; obtain ⟨NB169_170, NB170_169⟩ := bN BK169 hg; replace BK169 := bB BK169 hb; clear hb hg; obtain ⟨hnb11, hnc11⟩ := nB NB168_169; obtain ⟨hnb12, hnc12⟩ := nB NB168_170; obtain ⟨hcz13_0, hcz13_1, hcz13_2, hfz13_0, hfz13_1, hfz13_2⟩ := bK3 (w := w10) BK168) | (refine gC (some 6) Tryz.func47 #[.agg #[.int .i64 a0_0, .int .i64 a0_1, .bool a0_2]] ?_; (with_reducible refine (impl_PointOk.calls a0_0 a0_1 a0_2 true _ A3.out).mono ?_); rintro e w14 ⟨rfl, hb⟩; refine ⟨_, rfl, ?_⟩; replace BK168 := bB BK168 hb; replace BK169 := bB BK169 hb; replace BK170 := bB BK170 hb; replace HB := bS HB hb; (try clear hb); obtain ⟨hnb15, hnc15⟩ := nB NB169_170; obtain ⟨hcz16_0, hcz16_1, hcz16_2, hfz16_0, hfz16_1, hfz16_2⟩ := bK3 (w := w14) BK169) | (go_at_call 47; (with_reducible refine (impl_PointOk.calls a1_0 a1_1 a1_2 true _ A5.out).mono ?_); rintro e w17 ⟨rfl, hb⟩; replace BK168 := bB BK168 hb; replace BK169 := bB BK169 hb; replace BK170 := bB BK170 hb; replace HB := bS HB hb; (try clear hb); obtain ⟨hcz18_0, hcz18_1, hcz18_2, hfz18_0, hfz18_1, hfz18_2⟩ := bK3 (w := w17) BK168; obtain ⟨hcz19_0, hcz19_1, hcz19_2, hfz19_0, hfz19_1, hfz19_2⟩ := bK3 (w := w17) BK169) | (refine gC (some 16) Tryz.func48 #[.agg #[.int .i64 a0_0, .int .i64 a0_1, .bool a0_2], .agg #[.int .i64 a1_0, .int .i64 a1_1, .bool a1_2]] ?_; (with_reducible refine (impl_add.calls k a0_0 a0_1 a0_2 a1_0 a1_1 a1_2 t173 t174 t175 _ A7.out).mono ?_); rintro e w20 ⟨rfl, hb⟩; refine ⟨_, rfl, ?_⟩; replace BK168 := bB BK168 hb; replace BK169 := bB BK169 hb; replace BK170 := bB BK170 hb; replace HB := bS HB hb; (try clear hb); obtain ⟨hcz21_0, hcz21_1, hcz21_2, hfz21_0, hfz21_1, hfz21_2⟩ := bK3 (w := w20) BK170))
   refine rC gb170 28 #[.int .i64 t173, .int .i64 t174, .bool t175] (bU BK170) Tryz.underlying28 ?_
   exact ⟨rR, bZ HB⟩
  ·replace c6 := Bool.eq_false_iff.mpr c6
   subst c6
   rw [if_neg (show ¬ (false = true) by decide)] at H
   simp only [Option.some.injEq, Prod.mk.injEq] at H
   obtain ⟨rfl, rfl, rfl⟩ := H
   go_enter Tryz.func9, Tryz.ntmps9
   go_wp2_with (first | (refine gB 2 #[.int .i64 a0_0, .int .i64 a0_1, .bool a0_2] 28 ?_; intro gb168 hg w22 BK168 hb; have GW168 := bG HB hg; replace HB := bS HB hb; clear hb hg) | (refine gB 3 #[.int .i64 a1_0, .int .i64 a1_1, .bool a1_2] 28 ?_; intro gb169 hg w23 BK169 hb; have GW169 := bG HB hg; replace HB := bS HB hb; obtain ⟨NB168_169, NB169_168⟩ := bN BK168 hg; replace BK168 := bB BK168 hb; clear hb hg) | (refine gB 4 #[.int .i64 0, .int .i64 0, .bool false] 28 ?_; intro gb170 hg w24 BK170 hb; have GW170 := bG HB hg; replace HB := bS HB hb; obtain ⟨NB168_170, NB170_168⟩ := bN BK168 hg; replace BK168 := bB BK168 hb; obtain ⟨NB169_170, NB170_169⟩ := bN BK169 hg; replace BK169 := bB BK169 hb; clear hb hg; obtain ⟨hnb25, hnc25⟩ := nB NB168_169; obtain ⟨hnb26, hnc26⟩ := nB NB168_170; obtain ⟨hcz27_0, hcz27_1, hcz27_2, hfz27_0, hfz27_1, hfz27_2⟩ := bK3 (w := w24) BK168) | (refine gC (some 6) Tryz.func47 #[.agg #[.int .i64 a0_0, .int .i64 a0_1, .bool a0_2]] ?_; (with_reducible refine (impl_PointOk.calls a0_0 a0_1 a0_2 true _ A3.out).mono ?_); rintro e w28 ⟨rfl, hb⟩; refine ⟨_, rfl, ?_⟩; replace BK168 := bB BK168 hb; replace BK169 := bB BK169 hb; replace BK170 := bB BK170 hb; replace HB := bS HB hb; (try clear hb); obtain ⟨hnb29, hnc29⟩ := nB NB169_170; obtain ⟨hcz30_0, hcz30_1, hcz30_2, hfz30_0, hfz30_1, hfz30_2⟩ := bK3 (w := w28) BK169) | (go_at_call 47; (with_reducible refine (impl_PointOk.calls a1_0 a1_1 a1_2 false _ A5.out).mono ?_); rintro e w31 ⟨rfl, hb⟩; replace BK168 := bB BK168 hb; replace BK169 := bB BK169 hb; replace BK170 := bB BK170 hb; replace HB := bS HB hb; (try clear hb); obtain ⟨hcz32_0, hcz32_1, hcz32_2, hfz32_0, hfz32_1, hfz32_2⟩ := bK3 (w := w31) BK170))
   refine rC gb170 28 #[.int .i64 0, .int .i64 0, .bool true] (bU BK170) Tryz.underlying28 ?_
   exact ⟨rR, bZ HB⟩
 ·replace c4 := Bool.eq_false_iff.mpr c4
  subst c4
  rw [if_neg (show ¬ (false = true) by decide)] at H
  simp only [Option.some.injEq, Prod.mk.injEq] at H
  obtain ⟨rfl, rfl, rfl⟩ := H
  go_enter Tryz.func9, Tryz.ntmps9
  go_wp2_with (first | (refine gB 2 #[.int .i64 a0_0, .int .i64 a0_1, .bool a0_2] 28 ?_; intro gb168 hg w33 BK168 hb; have GW168 := bG HB hg; replace HB := bS HB hb; clear hb hg) | (refine gB 3 #[.int .i64 a1_0, .int .i64 a1_1, .bool a1_2] 28 ?_; intro gb169 hg w34 BK169 hb; have GW169 := bG HB hg; replace HB := bS HB hb; obtain ⟨NB168_169, NB169_168⟩ := bN BK168 hg; replace BK168 := bB BK168 hb; clear hb hg) | (refine gB 4 #[.int .i64 0, .int .i64 0, .bool false] 28 ?_; intro gb170 hg w35 BK170 hb; have GW170 := bG HB hg; replace HB := bS HB hb; obtain ⟨NB168_170, NB170_168⟩ := bN BK168 hg; replace BK168 := bB BK168 hb; obtain ⟨NB169_170, NB170_169⟩ := bN BK169 hg; replace BK169 := bB BK169 hb; clear hb hg; obtain ⟨hnb36, hnc36⟩ := nB NB168_169; obtain ⟨hnb37, hnc37⟩ := nB NB168_170; obtain ⟨hcz38_0, hcz38_1, hcz38_2, hfz38_0, hfz38_1, hfz38_2⟩ := bK3 (w := w35) BK168) | (refine gC (some 6) Tryz.func47 #[.agg #[.int .i64 a0_0, .int .i64 a0_1, .bool a0_2]] ?_; (with_reducible refine (impl_PointOk.calls a0_0 a0_1 a0_2 false _ A3.out).mono ?_); rintro e w39 ⟨rfl, hb⟩; refine ⟨_, rfl, ?_⟩; replace BK168 := bB BK168 hb; replace BK169 := bB BK169 hb; replace BK170 := bB BK170 hb; replace HB := bS HB hb; (try clear hb); obtain ⟨hnb40, hnc40⟩ := nB NB170_169; obtain ⟨hcz41_0, hcz41_1, hcz41_2, hfz41_0, hfz41_1, hfz41_2⟩ := bK3 (w := w39) BK170))
  refine rC gb170 28 #[.int .i64 0, .int .i64 0, .bool true] (bU BK170) Tryz.underlying28 ?_
  exact ⟨rR, bZ HB⟩
end Go.Proofs.YtkdmplfldfagnaaGreatDoor.Pf
end
section
namespace Go.Proofs.YtkdmplfldfagnaaGreatDoor.Kp
open Go.RowKit Go.Proofs.YtkdmplfldfagnaaGreatDoorW.PrintWords Go.Proofs.YtkdmplfldfagnaaGreatDoorW.PrintLast Go.Proofs.YtkdmplfldfagnaaGreatDoorW.PrintMore
attribute [local go_sem] max2_int min2_int max_two min_two max_three min_three max_four min_four   -- for this text's walks alone
set_option linter.unusedVariables false
set_option linter.unusedSimpArgs false
def errW : Option Int → Value
  | none => .nilIface
  | some c => .iface 0 (.int .i64 c)
theorem errW_none : errW none = .nilIface := rfl
theorem errW_some (c : Int) : errW (some c) = .iface 0 (.int .i64 c) := rfl
theorem info3 : (Tryz.prog.info? 3).map (fun i => (i.zero, i.size, i.bytes)) = some (some (.int .i64 0), 1, 8) := by kernel_rfl
theorem info5 : (Tryz.prog.info? 5).map (fun i => (i.zero, i.size, i.bytes)) = some (some (.int .u8 0), 1, 1) := by kernel_rfl
theorem info28 : (Tryz.prog.info? 28).map (fun i => (i.zero, i.size, i.bytes)) = some (some (.agg #[(.int .i64 0), (.int .i64 0), (.bool false)]), 3, 24) := by kernel_rfl
structure S28 where
  f0 : Int
  f1 : Int
  f2 : Bool
def z28 : S28 := ⟨(0 : Int), (0 : Int), false⟩
def k28 : Kd S28 := Kd.iso (Kd.pair (Kd.int .i64) (Kd.pair (Kd.int .i64) Kd.bool)) (fun x : S28 => (x.f0, x.f1, x.f2))
theorem k28_open {w : World} {x : S28} {cs : List Value} (h : k28.K w x cs) : cs = [.int .i64 x.f0, .int .i64 x.f1, .bool x.f2] := by
  obtain ⟨_, _, rfl, rfl, ⟨_, _, rfl, rfl, rfl⟩⟩ := h
  exact rfl
theorem k28_mkM (w : World) (base : Nat) (ok : Nat → Prop) (x : S28)  : k28.M w base ok x [.int .i64 x.f0, .int .i64 x.f1, .bool x.f2] := ⟨[.int .i64 x.f0], [.int .i64 x.f1, .bool x.f2], rfl, rfl, ⟨[.int .i64 x.f1], [.bool x.f2], rfl, rfl, rfl⟩⟩
def rd_T28 (xs : List S28) (i : Int) : S28 := xs.getD i.toNat z28
theorem at_T28 {w : World} {A : Option Addr} {n : Nat} {xs : List S28} (h : Kd.C k28 w A n xs) (i : Int) (h0 : 0 ≤ i) (h1 : i < n) : ∃ ad , A = some ad ∧ w.cell? (ad.add (i.toNat * 3)) = some (.int .i64 (rd_T28 xs i).f0) ∧ w.cell? ⟨(ad.add (i.toNat * 3)).block, (ad.add (i.toNat * 3)).off + 1, none⟩ = some (.int .i64 (rd_T28 xs i).f1) ∧ w.cell? ⟨(ad.add (i.toNat * 3)).block, (ad.add (i.toNat * 3)).off + 2, none⟩ = some (.bool (rd_T28 xs i).f2) := by
  obtain ⟨ad, c, e, _, hK, hc0⟩ := Kd.C_get h z28 i h0 h1
  have hc : ∀ j u, c[j]? = some u → w.cell? (ad.add (i.toNat * 3 + j)) = some u := hc0
  obtain rfl := k28_open hK
  exact ⟨ad, e, hc 0 _ rfl, by rw [← add_field _ _ 1 (by omega)]; exact hc 1 _ rfl, by rw [← add_field _ _ 2 (by omega)]; exact hc 2 _ rfl⟩
def bits_RotateLeft64.f (a0 : Int) (a1 : Int) : Option (Int) := if 0 ≤ (Go.bits .and .u64 (IntKind.u64.wrap (a1)) 63) then (if 0 ≤ (IntKind.u64.wrap (64 - (Go.bits .and .u64 (IntKind.u64.wrap (a1)) 63))) then (some (Go.bits .or .u64 (shl .u64 a0 (Go.bits .and .u64 (IntKind.u64.wrap (a1)) 63)) (shr .u64 a0 (IntKind.u64.wrap (64 - (Go.bits .and .u64 (IntKind.u64.wrap (a1)) 63)))))) else (none)) else (none)
set_option maxHeartbeats 8000000 in
set_option maxRecDepth 100000 in
theorem bits_RotateLeft64.calls (a0 : Int) (a1 : Int) (r : Int) (w : World) (h : bits_RotateLeft64.f a0 a1 = some r) :
  Calls Tryz.prog 152 #[.int .u64 a0, .int .i64 a1] w fun e w' => e = .returned (.int .u64 r) ∧ Drawn0 w w' := by
 have H : (if 0 ≤ (Go.bits .and .u64 (IntKind.u64.wrap (a1)) 63) then (if 0 ≤ (IntKind.u64.wrap (64 - (Go.bits .and .u64 (IntKind.u64.wrap (a1)) 63))) then (some (Go.bits .or .u64 (shl .u64 a0 (Go.bits .and .u64 (IntKind.u64.wrap (a1)) 63)) (shr .u64 a0 (IntKind.u64.wrap (64 - (Go.bits .and .u64 (IntKind.u64.wrap (a1)) 63)))))) else (none)) else (none)) = some r := h
 clear h
 obtain ⟨ji3, hji3⟩ : ∃ j_ : Int, (Go.bits .and .u64 (IntKind.u64.wrap (a1)) 63) = j_ := ⟨_, rfl⟩
 replace H : (if 0 ≤ (ji3) then (if 0 ≤ (IntKind.u64.wrap (64 - (ji3))) then (some (Go.bits .or .u64 (shl .u64 a0 (ji3)) (shr .u64 a0 (IntKind.u64.wrap (64 - (ji3)))))) else (none)) else (none)) = some r := by first | (rw [hji3] at H; exact H) | (simp only [hji3] at H ⊢; exact H)
 by_cases c4 : 0 ≤ (ji3)
 ·rw [if_pos c4] at H
  have c4b0 := eq_true c4
  have c4b1 : decide (0 ≤ (ji3)) = true := decide_eq_true c4
  clear c4
  obtain ⟨ji5, hji5⟩ : ∃ j_ : Int, (shl .u64 a0 (ji3)) = j_ := ⟨_, rfl⟩
  replace H : (if 0 ≤ (IntKind.u64.wrap (64 - (ji3))) then (some (Go.bits .or .u64 (ji5) (shr .u64 a0 (IntKind.u64.wrap (64 - (ji3)))))) else (none)) = some r := by first | (rw [hji5] at H; exact H) | (simp only [hji5] at H ⊢; exact H)
  have hji5_ : (IntKind.u64.wrap (a0 * 2 ^ min (ji3).toNat 64)) = ji5 := hji5
  have hji5z : (ji3) ≤ 64 → (IntKind.u64.wrap (a0 * 2 ^ (ji3).toNat)) = ji5 := shl_small hji5
  obtain ⟨ji6, hji6⟩ : ∃ j_ : Int, (IntKind.u64.wrap (64 - (ji3))) = j_ := ⟨_, rfl⟩
  replace H : (if 0 ≤ (ji6) then (some (Go.bits .or .u64 (ji5) (shr .u64 a0 (ji6)))) else (none)) = some r := by first | (rw [hji6] at H; exact H) | (simp only [hji6] at H ⊢; exact H)
  by_cases c7 : 0 ≤ (ji6)
  ·rw [if_pos c7] at H
   have c7b0 := eq_true c7
   have c7b1 : decide (0 ≤ (ji6)) = true := decide_eq_true c7
   clear c7
   obtain ⟨ji8, hji8⟩ : ∃ j_ : Int, (shr .u64 a0 (ji6)) = j_ := ⟨_, rfl⟩
   replace H : (some (Go.bits .or .u64 (ji5) (ji8))) = some r := by first | (rw [hji8] at H; exact H) | (simp only [hji8] at H ⊢; exact H)
   have hji8_ : (a0 / 2 ^ min (ji6).toNat 64) = ji8 := hji8
   have hji8z : (ji6) ≤ 64 → (a0 / 2 ^ (ji6).toNat) = ji8 := shr_small hji8
   obtain rfl := Option.some.inj H
   go_enter Tryz.func152, Tryz.ntmps152
   go_wp2
   go_ret
   exact ⟨by first | rfl | (simp; done) | (simp only [← hji3, ← hji5, ← hji6, ← hji8] <;> (first | rfl | simp)) | (simp [*]; done), by repeat (first | exact Drawn0.refl _ | apply Drawn0.step)⟩
  ·rw [if_neg c7] at H
   exact absurd H (by simp)
 ·rw [if_neg c4] at H
  exact absurd H (by simp)
end Go.Proofs.YtkdmplfldfagnaaGreatDoor.Kp
end
section
namespace Go.Proofs.YtkdmplfldfagnaaGreatDoor.Kp
open Go.RowKit Go.Proofs.YtkdmplfldfagnaaGreatDoorW.PrintWords Go.Proofs.YtkdmplfldfagnaaGreatDoorW.PrintLast Go.Proofs.YtkdmplfldfagnaaGreatDoorW.PrintMore
set_option linter.unusedVariables false
set_option linter.unusedSimpArgs false
def ga (s : List Int) (i : Nat) : Int := s.getD i 0
def ue (xs : List Int) : Array Value := (xs.map (Value.int .u64)).toArray
theorem ue_get {xs : List Int} {i : Nat} (h : i < xs.length) : (ue xs)[i]? = some (.int .u64 (ga xs i)) := by
  unfold ue ga
  rw [List.getElem?_toArray, List.getElem?_map, List.getElem?_eq_getElem h, List.getD_eq_getElem?_getD, List.getElem?_eq_getElem h]
  rfl
theorem ue_set (xs : List Int) (i : Nat) (v : Int) : (ue xs).setIfInBounds i (.int .u64 v) = ue (xs.set i v) := by
  unfold ue
  rw [List.setIfInBounds_toArray, List.map_set]
abbrev xr (a b : Int) : Int := Go.bits .xor .u64 a b
def turnsL : List Int := [0, 1, 62, 28, 27, 36, 44, 6, 55, 20, 3, 10, 43, 25, 39, 41, 45, 15, 21, 8, 18, 2, 61, 56, 14]
def rcL : List Int := [1, 32898, 9223372036854808714, 9223372039002292224, 32907, 2147483649, 9223372039002292353, 9223372036854808585, 138, 136, 2147516425, 2147483658, 2147516555, 9223372036854775947, 9223372036854808713, 9223372036854808579, 9223372036854808578, 9223372036854775936, 32778, 9223372039002259466, 9223372039002292353, 9223372036854808704, 2147483649, 9223372039002292232]
structure Tab (w : World) : Prop where
  t : ∀ i : Nat, i < 25 → w.cell? ⟨0, i, none⟩ = some (.int .i64 (ga turnsL i))
  r : ∀ i : Nat, i < 24 → w.cell? ⟨1, i, none⟩ = some (.int .u64 (ga rcL i))
  s : 0 < w.heap.size ∧ 1 < w.heap.size
theorem Tab.below {w w' : World} (h : Tab w) (hb : Below w.heap.size w w') : Tab w' :=
  ⟨fun i hi => (hb.cell (p := ⟨0, i, none⟩) h.s.1).trans (h.t i hi), fun i hi => (hb.cell (p := ⟨1, i, none⟩) h.s.2).trans (h.r i hi), ⟨Nat.lt_of_lt_of_le h.s.1 hb.size, Nat.lt_of_lt_of_le h.s.2 hb.size⟩⟩
def rl (v n : Int) : Int := Go.bits .or .u64 (shl .u64 v (Go.bits .and .u64 (IntKind.u64.wrap n) 63)) (shr .u64 v (IntKind.u64.wrap (64 - (Go.bits .and .u64 (IntKind.u64.wrap n) 63))))
def rok (n : Int) : Bool := decide (0 ≤ (Go.bits .and .u64 (IntKind.u64.wrap n) 63)) && decide (0 ≤ (IntKind.u64.wrap (64 - (Go.bits .and .u64 (IntKind.u64.wrap n) 63))))
theorem rot_f {v n : Int} (h : rok n = true) : bits_RotateLeft64.f v n = some (rl v n) := by
  unfold rok at h
  simp only [Bool.and_eq_true, decide_eq_true_eq] at h
  unfold bits_RotateLeft64.f rl
  rw [if_pos h.1, if_pos h.2]
theorem rok_one : rok 1 = true := by decide +kernel
theorem rok_turns : ∀ i : Fin 25, rok (ga turnsL i.val) = true := by decide +kernel
def col (s : List Int) (x : Nat) : Int := xr (xr (xr (xr (ga s x) (ga s (x + 5))) (ga s (x + 10))) (ga s (x + 15))) (ga s (x + 20))
def cst (s : List Int) : Nat → List Int
  | 0 => List.replicate 5 0
  | k + 1 => (cst s k).set k (col s k)
theorem cst_len (s : List Int) (k : Nat) : (cst s k).length = 5 := by
  induction k with
  | zero => rfl
  | succ k ih => simp [cst, ih]
def dd (c : List Int) (x : Nat) : Int := xr (ga c ((x + 4) % 5)) (rl (ga c ((x + 1) % 5)) 1)
def bat (s c : List Int) (y x : Nat) : Int := rl (xr (ga s (x + 5 * y)) (dd c x)) (ga turnsL (x + 5 * y))
def bst (s c : List Int) : Nat → List Int
  | 0 => List.replicate 25 0
  | m + 1 => (bst s c m).set (m / 5 + 5 * ((2 * (m % 5) + 3 * (m / 5)) % 5)) (bat s c (m / 5) (m % 5))
theorem bst_len (s c : List Int) (k : Nat) : (bst s c k).length = 25 := by
  induction k with
  | zero => rfl
  | succ k ih => simp [bst, ih]
theorem bst_succ (s c : List Int) {y x : Nat} (h : x < 5) : bst s c (5 * y + (x + 1)) = (bst s c (5 * y + x)).set (y + 5 * ((2 * x + 3 * y) % 5)) (bat s c y x) := by
  rw [show 5 * y + (x + 1) = (5 * y + x) + 1 by omega]
  simp only [bst]
  rw [show (5 * y + x) / 5 = y by omega, show (5 * y + x) % 5 = x by omega]
def u64not (x : Int) : Int := Go.bits .xor .u64 IntKind.u64.max x
def chi (b : List Int) (y x : Nat) : Int := xr (ga b (x + 5 * y)) (Go.bits .and .u64 (u64not (ga b ((x + 1) % 5 + 5 * y))) (ga b ((x + 2) % 5 + 5 * y)))
def sst (s b : List Int) : Nat → List Int
  | 0 => s
  | m + 1 => (sst s b m).set m (chi b (m / 5) (m % 5))
theorem sst_len (s b : List Int) (k : Nat) : (sst s b k).length = s.length := by
  induction k with
  | zero => rfl
  | succ k ih => simp [sst, ih]
theorem sst_succ (s b : List Int) {y x : Nat} (h : x < 5) : sst s b (5 * y + (x + 1)) = (sst s b (5 * y + x)).set (x + 5 * y) (chi b y x) := by
  rw [show 5 * y + (x + 1) = (5 * y + x) + 1 by omega]
  simp only [sst]
  rw [show (5 * y + x) / 5 = y by omega, show (5 * y + x) % 5 = x by omega, show 5 * y + x = x + 5 * y by omega]
def roundI (s : List Int) (n : Nat) : List Int :=
  let t := sst s (bst s (cst s 5) 25) 25
  t.set 0 (xr (ga t 0) (ga rcL n))
theorem roundI_len (s : List Int) (n : Nat) : (roundI s n).length = s.length := by simp [roundI, sst_len]
def impl_round.T4 : Bool × List (List Nat × List Nat) := (true, [([], []), ([], []), ([], []), ([1], [1]), ([3, 2], [2, 3]), ([4], [4]), ([], []), ([], []), ([7], [7]), ([6], [6]), ([9, 8], [8, 9]), ([10], [10]), ([5, 11], [5, 11]), ([], []), ([], []), ([14], [14]), ([13], [13]), ([16, 15], [15, 16]), ([17], [17]), ([12, 18], [12, 18]), ([], []), ([], []), ([21], [21]), ([20], [20]), ([23, 22], [22, 23]), ([24], [24]), ([19, 25], [19, 25]), ([], []), ([], []), ([28], [28]), ([27], [27]), ([30, 29], [29, 30]), ([31], [31]), ([26, 32], [26, 32]), ([0, 0, 1, 2, 3, 4, 5, 6, 7, 8, 9, 10, 11, 12, 13, 14, 15, 16, 17, 18, 19, 20, 21, 22, 23, 24, 25, 26, 27, 28, 29, 30, 31, 32, 33], [0]), ([34, 33, 0, 1, 2, 3, 4, 5, 6, 7, 8, 9, 10, 11, 12, 13, 14, 15, 16, 17, 18, 19, 20, 21, 22, 23, 24, 25, 26, 27, 28, 29, 30, 31, 32, 33], [33, 34])])
def impl_round.B4 : List Nat := [0, 0, 0, 2, 14, 30, 0, 0, 128, 64, 960, 1984, 4094, 0, 0, 16384, 8192, 122880, 253952, 524286, 0, 0, 2097152, 1048576, 15728640, 32505856, 67108862, 0, 0, 268435456, 134217728, 2013265920, 4160749568, 8589934590, 17179869183, 34359738367]
theorem impl_round.tab4 : rtab .any (opsOf Tryz.f133 4) = impl_round.T4 := by kernel_rfl
theorem impl_round.bits4 : waitsOk impl_round.T4.2 impl_round.B4 = true := by kernel_rfl
def impl_round.T13 : Bool × List (List Nat × List Nat) := (true, [([], []), ([0], [0]), ([1], [1]), ([2], [2]), ([3], [3]), ([], []), ([5], [5]), ([6], [6]), ([7], [7]), ([8], [8]), ([9], [9]), ([4, 10], [4, 10]), ([11, 10, 0, 1, 2, 3, 4, 5, 6, 7, 8, 9, 10, 11], [11])])
def impl_round.B13 : List Nat := [0, 1, 3, 7, 15, 0, 32, 96, 224, 480, 992, 2047, 4095]
theorem impl_round.tab13 : rtab .any (opsOf Tryz.f133 13) = impl_round.T13 := by kernel_rfl
theorem impl_round.bits13 : waitsOk impl_round.T13.2 impl_round.B13 = true := by kernel_rfl
def impl_round.T14 : Bool × List (List Nat × List Nat) := (true, [([], []), ([], []), ([1], [1]), ([], []), ([3], [3]), ([2, 4], [2, 4]), ([5], [5]), ([6], [6]), ([0, 7], [0, 7]), ([], []), ([], []), ([], []), ([11], [11]), ([10, 12], [10, 12]), ([9], [9]), ([14, 13], [13, 14]), ([15], [15]), ([], []), ([16, 17], [16, 17]), ([], []), ([], []), ([20], [20]), ([19, 21], [19, 21]), ([22], [22]), ([23], [23]), ([18, 24], [18, 24]), ([8, 0, 1, 2, 3, 4, 5, 6, 7, 8, 9, 10, 11, 12, 13, 14, 15, 16, 17, 18, 19, 20, 21, 22, 23, 24, 25], [8]), ([26, 25, 25, 0, 1, 2, 3, 4, 5, 6, 7, 8, 9, 10, 11, 12, 13, 14, 15, 16, 17, 18, 19, 20, 21, 22, 23, 24, 25], [25, 26])])
def impl_round.B14 : List Nat := [0, 0, 2, 0, 8, 30, 62, 126, 255, 0, 0, 0, 2048, 7168, 512, 32256, 65024, 0, 261632, 0, 0, 1048576, 3670016, 7864320, 16252928, 33553920, 67108863, 134217727]
theorem impl_round.tab14 : rtab .any (opsOf Tryz.f133 14) = impl_round.T14 := by kernel_rfl
theorem impl_round.bits14 : waitsOk impl_round.T14.2 impl_round.B14 = true := by kernel_rfl
def impl_round.T23 : Bool × List (List Nat × List Nat) := (true, [([], []), ([], []), ([], []), ([2], [2]), ([1, 3], [1, 3]), ([], []), ([], []), ([6], [6]), ([5, 7], [5, 7]), ([8], [8]), ([9], [9]), ([], []), ([11], [11]), ([12], [12]), ([], []), ([14], [14]), ([13, 15], [13, 15]), ([16], [16]), ([17], [17]), ([18], [18]), ([], []), ([20], [20]), ([21], [21]), ([], []), ([23], [23]), ([22, 24], [22, 24]), ([25], [25]), ([26], [26]), ([19, 27], [19, 27]), ([10, 28], [10, 28]), ([0], [0]), ([30, 4, 0, 1, 2, 3, 4, 5, 6, 7, 8, 9, 10, 11, 12, 13, 14, 15, 16, 17, 18, 19, 20, 21, 22, 23, 24, 25, 26, 27, 28, 29], [4, 30]), ([31, 29, 0, 1, 2, 3, 4, 5, 6, 7, 8, 9, 10, 11, 12, 13, 14, 15, 16, 17, 18, 19, 20, 21, 22, 23, 24, 25, 26, 27, 28, 29], [29, 31])])
def impl_round.B23 : List Nat := [0, 0, 0, 4, 14, 0, 0, 64, 224, 480, 992, 0, 2048, 6144, 0, 16384, 63488, 129024, 260096, 522240, 0, 1048576, 3145728, 0, 8388608, 32505856, 66060288, 133169152, 268433408, 536870880, 1, 2147483647, 4294967295]
theorem impl_round.tab23 : rtab .any (opsOf Tryz.f133 23) = impl_round.T23 := by kernel_rfl
theorem impl_round.bits23 : waitsOk impl_round.T23.2 impl_round.B23 = true := by kernel_rfl
def impl_round.T26 : Bool × List (List Nat × List Nat) := (true, [([], []), ([0], [0]), ([1], [1]), ([2], [2]), ([], []), ([4], [4]), ([5], [5]), ([3, 6], [3, 6]), ([0], [0]), ([8, 0, 1, 2, 3, 4, 5, 6, 7], [8]), ([9, 7, 0, 1, 2, 3, 4, 5, 6, 7], [7, 9])])
def impl_round.B26 : List Nat := [0, 1, 3, 7, 0, 16, 48, 127, 1, 511, 1023]
theorem impl_round.tab26 : rtab .any (opsOf Tryz.f133 26) = impl_round.T26 := by kernel_rfl
theorem impl_round.bits26 : waitsOk impl_round.T26.2 impl_round.B26 = true := by kernel_rfl
set_option maxHeartbeats 8000000 in
set_option maxRecDepth 100000 in
theorem impl_round.calls (g : Nat) (s : List Int) (hs : s.length = 25) (n : Int) (hn0 : 0 ≤ n) (hn1 : n < 24) (w0 w : World) (hT : Tab w0) (hB : Below w0.heap.size w0 w) (hg : w0.heap.size ≤ g) (hA : w.heap[g]? = some (.cells (ue s) 95 (0, 0))) :
    Calls Tryz.prog 133 #[.pointer (some ⟨g, 0, none⟩), .int .i64 n] w fun e w' => e = .returned (.tuple #[]) ∧ w'.heap[g]? = some (.cells (ue (roundI s n.toNat)) 95 (0, 0)) ∧ Below w0.heap.size w0 w' := by
  have HT := Aside0.mk hT
  have HB := Aside0.mk hB
  have BKs := Aside0.mk hA
  have GEs := Aside0.mk hg
  have HN := Aside0.mk (show 0 ≤ n ∧ n < 24 from ⟨hn0, hn1⟩)
  have HS := Aside0.mk hs
  clear hT hB hA hg hn0 hn1 hs
  go_enter Tryz.func133, Tryz.ntmps133
  go_wp2_with (first | ((with_reducible refine gate_dst (N := 4) rfl ?_); refine box_event ?hg (N := 4) ?hd (cs := ue (List.replicate 5 0)) (t := 134) ?hr ?_; (case hd => rfl); (case hg => rfl); (case hr => first | (go_simp; done) | (go_simp; rfl)); intro gc hg w1_ hbox hb; have n0_ := Aside0.mk (blk_below (by (with_reducible repeat (first | refine blk_drewN ?_ _ | refine blk_drew ?_)); exact BKs.out) hb); have n1_ := Aside0.mk (below_then (show Below w0.heap.size w0 _ by repeat (first | exact HB.out | apply Below.drew | apply pw_below_drewN | refine Below.setCell ?_ GEs.out _ | refine Below.setCell ?_ GEc.out _ | refine Below.setCell ?_ GEb.out _)) (Below.size (show Below w0.heap.size w0 _ by repeat (first | exact HB.out | apply Below.drew | apply pw_below_drewN | refine Below.setCell ?_ GEs.out _ | refine Below.setCell ?_ GEc.out _ | refine Below.setCell ?_ GEb.out _))) hb); have n2_ := Aside0.mk (show w0.heap.size ≤ gc by rw [hg]; exact (Below.size (show Below w0.heap.size w0 _ by repeat (first | exact HB.out | apply Below.drew | apply pw_below_drewN | refine Below.setCell ?_ GEs.out _ | refine Below.setCell ?_ GEc.out _ | refine Below.setCell ?_ GEb.out _)))); have n3_ := Aside0.mk (show g ≠ gc by rw [hg]; exact Nat.ne_of_lt (blk_lt (o := .cells _ _ _) (by (with_reducible repeat (first | refine blk_drewN ?_ _ | refine blk_drew ?_)); exact BKs.out))); have BKc := Aside0.mk hbox; clear BKs HB; have BKs := n0_; have HB := n1_; have GEc := n2_; have NEsc := n3_; clear n0_ n1_ n2_ n3_ hb hbox hg))
  go_loopg [12] 6 (fun kq v12 w' => ∃ (k : Nat) (x : Int), v12 = .int .i64 x ∧ Aside0 (x = (k : Int) ∧ k + kq = 6 ∧ k ≤ 5) ∧ Aside0 (w'.heap[gc]? = some (.cells (ue (cst s k)) 134 (0, 0))) ∧ Aside0 (w'.heap[g]? = some (.cells (ue (s)) 95 (0, 0))) ∧ Aside0 (Below w0.heap.size w0 w'))
  case atStart => exact ⟨0, 0, rfl, ⟨rfl, rfl, by decide⟩, ⟨by (with_reducible repeat (first | refine blk_drewN ?_ _ | refine blk_drew ?_)); exact BKc.out⟩, ⟨by (with_reducible repeat (first | refine blk_drewN ?_ _ | refine blk_drew ?_)); exact BKs.out⟩, ⟨(by repeat (first | exact HB.out | apply Below.drew | apply pw_below_drewN | refine Below.setCell ?_ GEs.out _ | refine Below.setCell ?_ GEc.out _ | refine Below.setCell ?_ GEb.out _))⟩⟩
  case round =>
    clear BKc BKs HB
    obtain ⟨K1, x, rfl, HK1, BKc, BKs, HB⟩ := hrel
    cases gk with
    | zero => exact absurd HK1.out (by omega)
    | succ k1 =>
      by_cases c : K1 < 5
      · have c0 : decide (x < 5) = true := decide_eq_true (by have := HK1.out; omega)
        have HC1 := Aside0.mk c
        clear c
        obtain ⟨x5, hx5, ex5⟩ : ∃ y_, wrap64 (x + 5) = y_ ∧ Aside0 (y_ = ((K1 + 5 : Nat) : Int)) := ⟨_, rfl, ⟨by have := HK1.out; have := HC1.out; have := HS.out; first | (unfold wrap64; omega) | (rw [Int.tmod_eq_emod_of_nonneg (by omega)]; omega)⟩⟩
        obtain ⟨x10, hx10, ex10⟩ : ∃ y_, wrap64 (x + 10) = y_ ∧ Aside0 (y_ = ((K1 + 10 : Nat) : Int)) := ⟨_, rfl, ⟨by have := HK1.out; have := HC1.out; have := HS.out; have := ex5.out; first | (unfold wrap64; omega) | (rw [Int.tmod_eq_emod_of_nonneg (by omega)]; omega)⟩⟩
        obtain ⟨x15, hx15, ex15⟩ : ∃ y_, wrap64 (x + 15) = y_ ∧ Aside0 (y_ = ((K1 + 15 : Nat) : Int)) := ⟨_, rfl, ⟨by have := HK1.out; have := HC1.out; have := HS.out; have := ex5.out; have := ex10.out; first | (unfold wrap64; omega) | (rw [Int.tmod_eq_emod_of_nonneg (by omega)]; omega)⟩⟩
        obtain ⟨x20, hx20, ex20⟩ : ∃ y_, wrap64 (x + 20) = y_ ∧ Aside0 (y_ = ((K1 + 20 : Nat) : Int)) := ⟨_, rfl, ⟨by have := HK1.out; have := HC1.out; have := HS.out; have := ex5.out; have := ex10.out; have := ex15.out; first | (unfold wrap64; omega) | (rw [Int.tmod_eq_emod_of_nonneg (by omega)]; omega)⟩⟩
        have px : (0 ≤ x) = True := eq_true (by have := HK1.out; have := HC1.out; have := HS.out; have := ex5.out; have := ex10.out; have := ex15.out; have := ex20.out; omega)
        have qx_25 : (x < 25) = True := eq_true (by have := HK1.out; have := HC1.out; have := HS.out; have := ex5.out; have := ex10.out; have := ex15.out; have := ex20.out; omega)
        have px : (0 ≤ x) = True := eq_true (by have := HK1.out; have := HC1.out; have := HS.out; have := ex5.out; have := ex10.out; have := ex15.out; have := ex20.out; omega)
        have qx_5 : (x < 5) = True := eq_true (by have := HK1.out; have := HC1.out; have := HS.out; have := ex5.out; have := ex10.out; have := ex15.out; have := ex20.out; omega)
        have px5 : (0 ≤ x5) = True := eq_true (by have := HK1.out; have := HC1.out; have := HS.out; have := ex5.out; have := ex10.out; have := ex15.out; have := ex20.out; omega)
        have qx5_25 : (x5 < 25) = True := eq_true (by have := HK1.out; have := HC1.out; have := HS.out; have := ex5.out; have := ex10.out; have := ex15.out; have := ex20.out; omega)
        have px10 : (0 ≤ x10) = True := eq_true (by have := HK1.out; have := HC1.out; have := HS.out; have := ex5.out; have := ex10.out; have := ex15.out; have := ex20.out; omega)
        have qx10_25 : (x10 < 25) = True := eq_true (by have := HK1.out; have := HC1.out; have := HS.out; have := ex5.out; have := ex10.out; have := ex15.out; have := ex20.out; omega)
        have px15 : (0 ≤ x15) = True := eq_true (by have := HK1.out; have := HC1.out; have := HS.out; have := ex5.out; have := ex10.out; have := ex15.out; have := ex20.out; omega)
        have qx15_25 : (x15 < 25) = True := eq_true (by have := HK1.out; have := HC1.out; have := HS.out; have := ex5.out; have := ex10.out; have := ex15.out; have := ex20.out; omega)
        have px20 : (0 ≤ x20) = True := eq_true (by have := HK1.out; have := HC1.out; have := HS.out; have := ex5.out; have := ex10.out; have := ex15.out; have := ex20.out; omega)
        have qx20_25 : (x20 < 25) = True := eq_true (by have := HK1.out; have := HC1.out; have := HS.out; have := ex5.out; have := ex10.out; have := ex15.out; have := ex20.out; omega)
        have hc0 : wr.cell? ⟨g, x.toNat, none⟩ = some (.int .u64 (ga (s) x.toNat)) := (blk_cell BKs.out _).trans (ue_get (by rw [HS.out]; have := HK1.out; have := HC1.out; have := HS.out; have := ex5.out; have := ex10.out; have := ex15.out; have := ex20.out; omega))
        have hc1 : wr.cell? ⟨g, x5.toNat, none⟩ = some (.int .u64 (ga (s) x5.toNat)) := (blk_cell BKs.out _).trans (ue_get (by rw [HS.out]; have := HK1.out; have := HC1.out; have := HS.out; have := ex5.out; have := ex10.out; have := ex15.out; have := ex20.out; omega))
        have hc2 : wr.cell? ⟨g, x10.toNat, none⟩ = some (.int .u64 (ga (s) x10.toNat)) := (blk_cell BKs.out _).trans (ue_get (by rw [HS.out]; have := HK1.out; have := HC1.out; have := HS.out; have := ex5.out; have := ex10.out; have := ex15.out; have := ex20.out; omega))
        have hc3 : wr.cell? ⟨g, x15.toNat, none⟩ = some (.int .u64 (ga (s) x15.toNat)) := (blk_cell BKs.out _).trans (ue_get (by rw [HS.out]; have := HK1.out; have := HC1.out; have := HS.out; have := ex5.out; have := ex10.out; have := ex15.out; have := ex20.out; omega))
        have hc4 : wr.cell? ⟨g, x20.toNat, none⟩ = some (.int .u64 (ga (s) x20.toNat)) := (blk_cell BKs.out _).trans (ue_get (by rw [HS.out]; have := HK1.out; have := HC1.out; have := HS.out; have := ex5.out; have := ex10.out; have := ex15.out; have := ex20.out; omega))
        have hst : wr.cell? ⟨gc, x.toNat, none⟩ = some (.int .u64 (ga (cst s K1) x.toNat)) := (blk_cell BKc.out _).trans (ue_get (by rw [cst_len]; have := HK1.out; have := HC1.out; have := HS.out; have := ex5.out; have := ex10.out; have := ex15.out; have := ex20.out; omega))
        have hfz : wr.frozen? ⟨gc, x.toNat, none⟩ = false := blk_frozen BKc.out _
        go_wp2
        refine start_ (n := 36) (S := fun w' => w'.cell? ⟨g, x.toNat, none⟩ = some (.int .u64 (ga (s) x.toNat)) ∧ w'.cell? ⟨g, x5.toNat, none⟩ = some (.int .u64 (ga (s) x5.toNat)) ∧ w'.cell? ⟨g, x10.toNat, none⟩ = some (.int .u64 (ga (s) x10.toNat)) ∧ w'.cell? ⟨g, x15.toNat, none⟩ = some (.int .u64 (ga (s) x15.toNat)) ∧ w'.cell? ⟨g, x20.toNat, none⟩ = some (.int .u64 (ga (s) x20.toNat))) (ds := [35]) #[false, false, false, false, false, false, false, false, false, false, false, false, false, false, false, false, false, false, false, false, false, false, false, false, false, false, false, false, false, false, false, false, false, false, false, false] (by kernel_rfl) rfl rfl ⟨hc0, hc1, hc2, hc3, hc4⟩ (fun hHeld => ?_)
        refine with_tabW impl_round.tab4 impl_round.bits4 (fun HT_ HW_ => ?_)
        refine pI 0 (some 15) HT_.out ?_
        refine pI 1 (some 16) HT_.out ?_
        refine pI 2 (some 17) HT_.out ?_
        refine pI 3 (some 18) HT_.out ?_
        refine pI 4 (some 19) HT_.out ?_
        refine pI 6 (some 21) HT_.out ?_
        refine pI 7 (some 22) HT_.out ?_
        refine pI 8 (some 23) HT_.out ?_
        refine pI 9 (some 24) HT_.out ?_
        refine pI 10 (some 25) HT_.out ?_
        refine pI 13 (some 28) HT_.out ?_
        refine pI 14 (some 29) HT_.out ?_
        refine pI 15 (some 30) HT_.out ?_
        refine pI 16 (some 31) HT_.out ?_
        refine pI 17 (some 32) HT_.out ?_
        refine pI 20 (some 35) HT_.out ?_
        refine pI 21 (some 36) HT_.out ?_
        refine pI 22 (some 37) HT_.out ?_
        refine pI 23 (some 38) HT_.out ?_
        refine pI 24 (some 39) HT_.out ?_
        refine pI 27 (some 42) HT_.out ?_
        refine pI 28 (some 43) HT_.out ?_
        refine pI 29 (some 44) HT_.out ?_
        refine pI 30 (some 45) HT_.out ?_
        refine pI 31 (some 46) HT_.out ?_
        refine tI5 5 (some 20) HT_.out HW_.out hHeld ?_
        refine tI5 11 (some 26) HT_.out HW_.out hHeld ?_
        refine pI 12 (some 27) HT_.out ?_
        refine tI5 18 (some 33) HT_.out HW_.out hHeld ?_
        refine pI 19 (some 34) HT_.out ?_
        refine tI5 25 (some 40) HT_.out HW_.out hHeld ?_
        refine pI 26 (some 41) HT_.out ?_
        refine tI5 32 (some 47) HT_.out HW_.out hHeld ?_
        refine pI 33 (some 48) HT_.out ?_
        refine pI 34 (some 49) HT_.out ?_
        refine last_ (i := 35) (N := none) #[true, true, true, true, true, true, true, true, true, true, true, true, true, true, true, true, true, true, true, true, true, true, true, true, true, true, true, true, true, true, true, true, true, true, true, true] rfl rfl (one_of HT_.out (by kernel_rfl)) (by decide) (fun K hK => ?_)
        refine skip_ (w1 := ?_) (by rfl) rfl ?_ ?_
        rotate_left
        · go_simp
          rfl
        refine hK.out _ _ ?_
        clear hK K
        refine done_ (done_of HT_.out (by kernel_rfl)) ?_
        go_wp2
        go_roundg k1
        case measure => omega
        case rel => exact ⟨K1 + 1, _, rfl, ⟨by have := HK1.out; have := HC1.out; have := HS.out; have := ex5.out; have := ex10.out; have := ex15.out; have := ex20.out; first | omega | (unfold wrap64; omega), by have := HK1.out; have := HC1.out; have := HS.out; have := ex5.out; have := ex10.out; have := ex15.out; have := ex20.out; omega, by have := HK1.out; have := HC1.out; have := HS.out; have := ex5.out; have := ex10.out; have := ex15.out; have := ex20.out; omega⟩, ⟨by (with_reducible repeat (first | refine blk_drewN ?_ _ | refine blk_drew ?_)); refine blk_put (cs := ue (cst s K1)) (by (with_reducible repeat (first | refine blk_drewN ?_ _ | refine blk_drew ?_)); exact BKc.out) x.toNat _ ?_; rw [ue_set]; simp only [cst, col]; rw [show x.toNat = K1 by have := HK1.out; have := HC1.out; have := HS.out; have := ex5.out; have := ex10.out; have := ex15.out; have := ex20.out; omega, show x5.toNat = K1 + 5 by have := HK1.out; have := HC1.out; have := HS.out; have := ex5.out; have := ex10.out; have := ex15.out; have := ex20.out; omega, show x10.toNat = K1 + 10 by have := HK1.out; have := HC1.out; have := HS.out; have := ex5.out; have := ex10.out; have := ex15.out; have := ex20.out; omega, show x15.toNat = K1 + 15 by have := HK1.out; have := HC1.out; have := HS.out; have := ex5.out; have := ex10.out; have := ex15.out; have := ex20.out; omega, show x20.toNat = K1 + 20 by have := HK1.out; have := HC1.out; have := HS.out; have := ex5.out; have := ex10.out; have := ex15.out; have := ex20.out; omega]⟩, ⟨by (with_reducible repeat (first | refine blk_drewN ?_ _ | refine blk_drew ?_)); refine blk_far ?_ (p := ⟨gc, _, none⟩) NEsc.out _; (with_reducible repeat (first | refine blk_drewN ?_ _ | refine blk_drew ?_)); exact BKs.out⟩, ⟨(by repeat (first | exact HB.out | apply Below.drew | apply pw_below_drewN | refine Below.setCell ?_ GEs.out _ | refine Below.setCell ?_ GEc.out _ | refine Below.setCell ?_ GEb.out _))⟩⟩
      · have c0 : decide (x < 5) = false := decide_eq_false (by have := HK1.out; omega)
        obtain rfl : K1 = 5 := by have := HK1.out; omega
        clear c HK1
        go_wp2_with (first | ((with_reducible refine gate_dst (N := 6) rfl ?_); refine box_event ?hg (N := 6) ?hd (cs := ue (List.replicate 25 0)) (t := 95) ?hr ?_; (case hd => rfl); (case hg => rfl); (case hr => first | (go_simp; done) | (go_simp; rfl)); intro gb hg w1_ hbox hb; have n0_ := Aside0.mk (blk_below (by (with_reducible repeat (first | refine blk_drewN ?_ _ | refine blk_drew ?_)); exact BKs.out) hb); have n1_ := Aside0.mk (blk_below (by (with_reducible repeat (first | refine blk_drewN ?_ _ | refine blk_drew ?_)); exact BKc.out) hb); have n2_ := Aside0.mk (below_then (show Below w0.heap.size w0 _ by repeat (first | exact HB.out | apply Below.drew | apply pw_below_drewN | refine Below.setCell ?_ GEs.out _ | refine Below.setCell ?_ GEc.out _ | refine Below.setCell ?_ GEb.out _)) (Below.size (show Below w0.heap.size w0 _ by repeat (first | exact HB.out | apply Below.drew | apply pw_below_drewN | refine Below.setCell ?_ GEs.out _ | refine Below.setCell ?_ GEc.out _ | refine Below.setCell ?_ GEb.out _))) hb); have n3_ := Aside0.mk (show w0.heap.size ≤ gb by rw [hg]; exact (Below.size (show Below w0.heap.size w0 _ by repeat (first | exact HB.out | apply Below.drew | apply pw_below_drewN | refine Below.setCell ?_ GEs.out _ | refine Below.setCell ?_ GEc.out _ | refine Below.setCell ?_ GEb.out _)))); have n4_ := Aside0.mk (show g ≠ gb by rw [hg]; exact Nat.ne_of_lt (blk_lt (o := .cells _ _ _) (by (with_reducible repeat (first | refine blk_drewN ?_ _ | refine blk_drew ?_)); exact BKs.out))); have n5_ := Aside0.mk (show gc ≠ gb by rw [hg]; exact Nat.ne_of_lt (blk_lt (o := .cells _ _ _) (by (with_reducible repeat (first | refine blk_drewN ?_ _ | refine blk_drew ?_)); exact BKc.out))); have BKb := Aside0.mk hbox; clear BKs BKc HB; have BKs := n0_; have BKc := n1_; have HB := n2_; have GEb := n3_; have NEsb := n4_; have NEcb := n5_; clear n0_ n1_ n2_ n3_ n4_ n5_ hb hbox hg))
        go_loopg [51] 6 (fun kq v51 w' => ∃ (k : Nat) (x : Int), v51 = .int .i64 x ∧ Aside0 (x = (k : Int) ∧ k + kq = 6 ∧ k ≤ 5) ∧ Aside0 (w'.heap[gc]? = some (.cells (ue (cst s 5)) 134 (0, 0))) ∧ Aside0 (w'.heap[g]? = some (.cells (ue (s)) 95 (0, 0))) ∧ Aside0 (w'.heap[gb]? = some (.cells (ue (bst s (cst s 5) (5 * k))) 95 (0, 0))) ∧ Aside0 (Below w0.heap.size w0 w'))
        case atStart => exact ⟨0, 0, rfl, ⟨rfl, rfl, by decide⟩, ⟨by (with_reducible repeat (first | refine blk_drewN ?_ _ | refine blk_drew ?_)); exact BKc.out⟩, ⟨by (with_reducible repeat (first | refine blk_drewN ?_ _ | refine blk_drew ?_)); exact BKs.out⟩, ⟨by (with_reducible repeat (first | refine blk_drewN ?_ _ | refine blk_drew ?_)); exact BKb.out⟩, ⟨(by repeat (first | exact HB.out | apply Below.drew | apply pw_below_drewN | refine Below.setCell ?_ GEs.out _ | refine Below.setCell ?_ GEc.out _ | refine Below.setCell ?_ GEb.out _))⟩⟩
        case round =>
          clear BKc BKs BKb HB
          clear c0
          obtain ⟨K2, y, rfl, HK2, BKc, BKs, BKb, HB⟩ := hrel
          cases gk with
          | zero => exact absurd HK2.out (by omega)
          | succ k2 =>
            by_cases c : K2 < 5
            · have c0 : decide (y < 5) = true := decide_eq_true (by have := HK2.out; omega)
              have HC2 := Aside0.mk c
              clear c
              go_wp2
              go_loopg [54] 6 (fun kq v54 w' => ∃ (k : Nat) (x : Int), v54 = .int .i64 x ∧ Aside0 (x = (k : Int) ∧ k + kq = 6 ∧ k ≤ 5) ∧ Aside0 (w'.heap[gc]? = some (.cells (ue (cst s 5)) 134 (0, 0))) ∧ Aside0 (w'.heap[g]? = some (.cells (ue (s)) 95 (0, 0))) ∧ Aside0 (w'.heap[gb]? = some (.cells (ue (bst s (cst s 5) (5 * K2 + k))) 95 (0, 0))) ∧ Aside0 (Below w0.heap.size w0 w'))
              case atStart => exact ⟨0, 0, rfl, ⟨rfl, rfl, by decide⟩, ⟨by (with_reducible repeat (first | refine blk_drewN ?_ _ | refine blk_drew ?_)); exact BKc.out⟩, ⟨by (with_reducible repeat (first | refine blk_drewN ?_ _ | refine blk_drew ?_)); exact BKs.out⟩, ⟨by (with_reducible repeat (first | refine blk_drewN ?_ _ | refine blk_drew ?_)); exact BKb.out⟩, ⟨(by repeat (first | exact HB.out | apply Below.drew | apply pw_below_drewN | refine Below.setCell ?_ GEs.out _ | refine Below.setCell ?_ GEc.out _ | refine Below.setCell ?_ GEb.out _))⟩⟩
              case round =>
                clear BKc BKs BKb HB
                clear c0
                obtain ⟨K3, x, rfl, HK3, BKc, BKs, BKb, HB⟩ := hrel
                cases gk with
                | zero => exact absurd HK3.out (by omega)
                | succ k3 =>
                  by_cases c : K3 < 5
                  · have c0 : decide (x < 5) = true := decide_eq_true (by have := HK3.out; omega)
                    have HC3 := Aside0.mk c
                    clear c
                    obtain ⟨a1, ha1, ea1⟩ : ∃ y_, wrap64 (x + 4) = y_ ∧ Aside0 (y_ = ((K3 + 4 : Nat) : Int)) := ⟨_, rfl, ⟨by have := HK2.out; have := HC2.out; have := HK3.out; have := HC3.out; have := HS.out; first | (unfold wrap64; omega) | (rw [Int.tmod_eq_emod_of_nonneg (by omega)]; omega)⟩⟩
                    obtain ⟨a2, ha2, ea2⟩ : ∃ y_, Int.tmod a1 5 = y_ ∧ Aside0 (y_ = (((K3 + 4) % 5 : Nat) : Int)) := ⟨_, rfl, ⟨by have := HK2.out; have := HC2.out; have := HK3.out; have := HC3.out; have := HS.out; have := ea1.out; first | (unfold wrap64; omega) | (rw [Int.tmod_eq_emod_of_nonneg (by omega)]; omega)⟩⟩
                    obtain ⟨b1, hb1, eb1⟩ : ∃ y_, wrap64 (x + 1) = y_ ∧ Aside0 (y_ = ((K3 + 1 : Nat) : Int)) := ⟨_, rfl, ⟨by have := HK2.out; have := HC2.out; have := HK3.out; have := HC3.out; have := HS.out; have := ea1.out; have := ea2.out; first | (unfold wrap64; omega) | (rw [Int.tmod_eq_emod_of_nonneg (by omega)]; omega)⟩⟩
                    obtain ⟨b2, hb2, eb2⟩ : ∃ y_, Int.tmod b1 5 = y_ ∧ Aside0 (y_ = (((K3 + 1) % 5 : Nat) : Int)) := ⟨_, rfl, ⟨by have := HK2.out; have := HC2.out; have := HK3.out; have := HC3.out; have := HS.out; have := ea1.out; have := ea2.out; have := eb1.out; first | (unfold wrap64; omega) | (rw [Int.tmod_eq_emod_of_nonneg (by omega)]; omega)⟩⟩
                    have pa2 : (0 ≤ a2) = True := eq_true (by have := HK2.out; have := HC2.out; have := HK3.out; have := HC3.out; have := HS.out; have := ea1.out; have := ea2.out; have := eb1.out; have := eb2.out; omega)
                    have qa2_5 : (a2 < 5) = True := eq_true (by have := HK2.out; have := HC2.out; have := HK3.out; have := HC3.out; have := HS.out; have := ea1.out; have := ea2.out; have := eb1.out; have := eb2.out; omega)
                    have pb2 : (0 ≤ b2) = True := eq_true (by have := HK2.out; have := HC2.out; have := HK3.out; have := HC3.out; have := HS.out; have := ea1.out; have := ea2.out; have := eb1.out; have := eb2.out; omega)
                    have qb2_5 : (b2 < 5) = True := eq_true (by have := HK2.out; have := HC2.out; have := HK3.out; have := HC3.out; have := HS.out; have := ea1.out; have := ea2.out; have := eb1.out; have := eb2.out; omega)
                    have hc0 : wr.cell? ⟨gc, a2.toNat, none⟩ = some (.int .u64 (ga (cst s 5) a2.toNat)) := (blk_cell BKc.out _).trans (ue_get (by rw [cst_len]; have := HK2.out; have := HC2.out; have := HK3.out; have := HC3.out; have := HS.out; have := ea1.out; have := ea2.out; have := eb1.out; have := eb2.out; omega))
                    have hc1 : wr.cell? ⟨gc, b2.toNat, none⟩ = some (.int .u64 (ga (cst s 5) b2.toNat)) := (blk_cell BKc.out _).trans (ue_get (by rw [cst_len]; have := HK2.out; have := HC2.out; have := HK3.out; have := HC3.out; have := HS.out; have := ea1.out; have := ea2.out; have := eb1.out; have := eb2.out; omega))
                    have HR := rot_f (v := ga (cst s 5) b2.toNat) rok_one
                    have HRa := Aside0.mk HR
                    clear HR
                    go_wp2
                    refine start_ (n := 13) (S := fun w' => w'.cell? ⟨gc, a2.toNat, none⟩ = some (.int .u64 (ga (cst s 5) a2.toNat)) ∧ w'.cell? ⟨gc, b2.toNat, none⟩ = some (.int .u64 (ga (cst s 5) b2.toNat))) (ds := []) #[false, false, false, false, false, false, false, false, false, false, false, false, false] (by kernel_rfl) rfl rfl ⟨hc0, hc1⟩ (fun hHeld => ?_)
                    refine with_tabW impl_round.tab13 impl_round.bits13 (fun HT_ HW_ => ?_)
                    refine pI 0 (some 57) HT_.out ?_
                    refine pI 1 (some 58) HT_.out ?_
                    refine pI 2 (some 59) HT_.out ?_
                    refine pI 3 (some 60) HT_.out ?_
                    refine pI 5 (some 62) HT_.out ?_
                    refine pI 6 (some 63) HT_.out ?_
                    refine pI 7 (some 64) HT_.out ?_
                    refine pI 8 (some 65) HT_.out ?_
                    refine tI2 4 (some 61) HT_.out HW_.out hHeld ?_
                    refine tI2 9 (some 66) HT_.out HW_.out hHeld ?_
                    refine oI 10 (some 67) HT_.out (fun K hK => ?_)
                    refine goes_ Tryz.func152 (by kernel_rfl) rfl #[.int .u64 (ga (cst s 5) b2.toNat), .int .i64 (1)] (by rfl) rfl rfl (by simp only [List.map_toArray, List.map_cons, List.map_nil]; rfl) ?_
                    with_reducible refine (bits_RotateLeft64.calls _ _ _ _ HRa.out).mono ?_
                    rintro e w3_ ⟨rfl, ⟨nd, rfl⟩⟩
                    refine ⟨_, rfl, ?_⟩
                    refine hK.out _ _ ⟨(by exact hHeld.1), (by exact hHeld.2)⟩ (fun hHeld => ?_)
                    clear hK K
                    refine nO (some 67) ?_
                    refine pI 11 (some 68) HT_.out ?_
                    refine pI 12 (some 9) HT_.out ?_
                    refine done_ (done_of HT_.out (by kernel_rfl)) ?_
                    obtain ⟨m1, hm1, em1⟩ : ∃ y_, wrap64 (2 * x) = y_ ∧ Aside0 (y_ = ((2 * K3 : Nat) : Int)) := ⟨_, rfl, ⟨by have := HK2.out; have := HC2.out; have := HK3.out; have := HC3.out; have := HS.out; have := ea1.out; have := ea2.out; have := eb1.out; have := eb2.out; first | (unfold wrap64; omega) | (rw [Int.tmod_eq_emod_of_nonneg (by omega)]; omega)⟩⟩
                    obtain ⟨m2, hm2, em2⟩ : ∃ y_, wrap64 (3 * y) = y_ ∧ Aside0 (y_ = ((3 * K2 : Nat) : Int)) := ⟨_, rfl, ⟨by have := HK2.out; have := HC2.out; have := HK3.out; have := HC3.out; have := HS.out; have := ea1.out; have := ea2.out; have := eb1.out; have := eb2.out; have := em1.out; first | (unfold wrap64; omega) | (rw [Int.tmod_eq_emod_of_nonneg (by omega)]; omega)⟩⟩
                    obtain ⟨m3, hm3, em3⟩ : ∃ y_, wrap64 (m1 + m2) = y_ ∧ Aside0 (y_ = ((2 * K3 + 3 * K2 : Nat) : Int)) := ⟨_, rfl, ⟨by have := HK2.out; have := HC2.out; have := HK3.out; have := HC3.out; have := HS.out; have := ea1.out; have := ea2.out; have := eb1.out; have := eb2.out; have := em1.out; have := em2.out; first | (unfold wrap64; omega) | (rw [Int.tmod_eq_emod_of_nonneg (by omega)]; omega)⟩⟩
                    obtain ⟨m4, hm4, em4⟩ : ∃ y_, Int.tmod m3 5 = y_ ∧ Aside0 (y_ = (((2 * K3 + 3 * K2) % 5 : Nat) : Int)) := ⟨_, rfl, ⟨by have := HK2.out; have := HC2.out; have := HK3.out; have := HC3.out; have := HS.out; have := ea1.out; have := ea2.out; have := eb1.out; have := eb2.out; have := em1.out; have := em2.out; have := em3.out; first | (unfold wrap64; omega) | (rw [Int.tmod_eq_emod_of_nonneg (by omega)]; omega)⟩⟩
                    obtain ⟨m5, hm5, em5⟩ : ∃ y_, wrap64 (5 * m4) = y_ ∧ Aside0 (y_ = ((5 * ((2 * K3 + 3 * K2) % 5) : Nat) : Int)) := ⟨_, rfl, ⟨by have := HK2.out; have := HC2.out; have := HK3.out; have := HC3.out; have := HS.out; have := ea1.out; have := ea2.out; have := eb1.out; have := eb2.out; have := em1.out; have := em2.out; have := em3.out; have := em4.out; first | (unfold wrap64; omega) | (rw [Int.tmod_eq_emod_of_nonneg (by omega)]; omega)⟩⟩
                    obtain ⟨m6, hm6, em6⟩ : ∃ y_, wrap64 (y + m5) = y_ ∧ Aside0 (y_ = ((K2 + 5 * ((2 * K3 + 3 * K2) % 5) : Nat) : Int)) := ⟨_, rfl, ⟨by have := HK2.out; have := HC2.out; have := HK3.out; have := HC3.out; have := HS.out; have := ea1.out; have := ea2.out; have := eb1.out; have := eb2.out; have := em1.out; have := em2.out; have := em3.out; have := em4.out; have := em5.out; first | (unfold wrap64; omega) | (rw [Int.tmod_eq_emod_of_nonneg (by omega)]; omega)⟩⟩
                    obtain ⟨z1, hz1, ez1⟩ : ∃ y_, wrap64 (5 * y) = y_ ∧ Aside0 (y_ = ((5 * K2 : Nat) : Int)) := ⟨_, rfl, ⟨by have := HK2.out; have := HC2.out; have := HK3.out; have := HC3.out; have := HS.out; have := ea1.out; have := ea2.out; have := eb1.out; have := eb2.out; have := em1.out; have := em2.out; have := em3.out; have := em4.out; have := em5.out; have := em6.out; first | (unfold wrap64; omega) | (rw [Int.tmod_eq_emod_of_nonneg (by omega)]; omega)⟩⟩
                    obtain ⟨z2, hz2, ez2⟩ : ∃ y_, wrap64 (x + z1) = y_ ∧ Aside0 (y_ = ((K3 + 5 * K2 : Nat) : Int)) := ⟨_, rfl, ⟨by have := HK2.out; have := HC2.out; have := HK3.out; have := HC3.out; have := HS.out; have := ea1.out; have := ea2.out; have := eb1.out; have := eb2.out; have := em1.out; have := em2.out; have := em3.out; have := em4.out; have := em5.out; have := em6.out; have := ez1.out; first | (unfold wrap64; omega) | (rw [Int.tmod_eq_emod_of_nonneg (by omega)]; omega)⟩⟩
                    have pm6 : (0 ≤ m6) = True := eq_true (by have := HK2.out; have := HC2.out; have := HK3.out; have := HC3.out; have := HS.out; have := ea1.out; have := ea2.out; have := eb1.out; have := eb2.out; have := em1.out; have := em2.out; have := em3.out; have := em4.out; have := em5.out; have := em6.out; have := ez1.out; have := ez2.out; omega)
                    have qm6_25 : (m6 < 25) = True := eq_true (by have := HK2.out; have := HC2.out; have := HK3.out; have := HC3.out; have := HS.out; have := ea1.out; have := ea2.out; have := eb1.out; have := eb2.out; have := em1.out; have := em2.out; have := em3.out; have := em4.out; have := em5.out; have := em6.out; have := ez1.out; have := ez2.out; omega)
                    have pz2 : (0 ≤ z2) = True := eq_true (by have := HK2.out; have := HC2.out; have := HK3.out; have := HC3.out; have := HS.out; have := ea1.out; have := ea2.out; have := eb1.out; have := eb2.out; have := em1.out; have := em2.out; have := em3.out; have := em4.out; have := em5.out; have := em6.out; have := ez1.out; have := ez2.out; omega)
                    have qz2_25 : (z2 < 25) = True := eq_true (by have := HK2.out; have := HC2.out; have := HK3.out; have := HC3.out; have := HS.out; have := ea1.out; have := ea2.out; have := eb1.out; have := eb2.out; have := em1.out; have := em2.out; have := em3.out; have := em4.out; have := em5.out; have := em6.out; have := ez1.out; have := ez2.out; omega)
                    have hd0 : wr.cell? ⟨g, z2.toNat, none⟩ = some (.int .u64 (ga (s) z2.toNat)) := (blk_cell BKs.out _).trans (ue_get (by rw [HS.out]; have := HK2.out; have := HC2.out; have := HK3.out; have := HC3.out; have := HS.out; have := ea1.out; have := ea2.out; have := eb1.out; have := eb2.out; have := em1.out; have := em2.out; have := em3.out; have := em4.out; have := em5.out; have := em6.out; have := ez1.out; have := ez2.out; omega))
                    have hd1 : wr.cell? ⟨0, z2.toNat, none⟩ = some (.int .i64 (ga turnsL z2.toNat)) := (HB.out.cell (p := ⟨0, z2.toNat, none⟩) HT.out.s.1).trans (HT.out.t _ (by have := HK2.out; have := HC2.out; have := HK3.out; have := HC3.out; have := HS.out; have := ea1.out; have := ea2.out; have := eb1.out; have := eb2.out; have := em1.out; have := em2.out; have := em3.out; have := em4.out; have := em5.out; have := em6.out; have := ez1.out; have := ez2.out; omega))
                    have hst : wr.cell? ⟨gb, m6.toNat, none⟩ = some (.int .u64 (ga (bst s (cst s 5) (5 * K2 + K3)) m6.toNat)) := (blk_cell BKb.out _).trans (ue_get (by rw [bst_len]; have := HK2.out; have := HC2.out; have := HK3.out; have := HC3.out; have := HS.out; have := ea1.out; have := ea2.out; have := eb1.out; have := eb2.out; have := em1.out; have := em2.out; have := em3.out; have := em4.out; have := em5.out; have := em6.out; have := ez1.out; have := ez2.out; omega))
                    have hfz : wr.frozen? ⟨gb, m6.toNat, none⟩ = false := blk_frozen BKb.out _
                    have hz25 : z2.toNat < 25 := by have := HK2.out; have := HC2.out; have := HK3.out; have := HC3.out; have := HS.out; have := ea1.out; have := ea2.out; have := eb1.out; have := eb2.out; have := em1.out; have := em2.out; have := em3.out; have := em4.out; have := em5.out; have := em6.out; have := ez1.out; have := ez2.out; omega
                    have HR := rot_f (v := Go.bits .xor .u64 (ga s z2.toNat) (Go.bits .xor .u64 (ga (cst s 5) a2.toNat) (rl (ga (cst s 5) b2.toNat) 1))) (rok_turns ⟨z2.toNat, hz25⟩)
                    have HRb := Aside0.mk (show bits_RotateLeft64.f (Go.bits .xor .u64 (ga s z2.toNat) (Go.bits .xor .u64 (ga (cst s 5) a2.toNat) (rl (ga (cst s 5) b2.toNat) 1))) (ga turnsL z2.toNat) = some (rl (Go.bits .xor .u64 (ga s z2.toNat) (Go.bits .xor .u64 (ga (cst s 5) a2.toNat) (rl (ga (cst s 5) b2.toNat) 1))) (ga turnsL z2.toNat)) from HR)
                    clear HR hz25
                    go_wp2
                    refine start_ (n := 28) (S := fun w' => w'.cell? ⟨g, z2.toNat, none⟩ = some (.int .u64 (ga (s) z2.toNat)) ∧ w'.cell? ⟨0, z2.toNat, none⟩ = some (.int .i64 (ga turnsL z2.toNat))) (ds := [27]) #[false, false, false, false, false, false, false, false, false, false, false, false, false, false, false, false, false, false, false, false, false, false, false, false, false, false, false, false] (by kernel_rfl) rfl rfl ⟨(by exact hd0), (by exact hd1)⟩ (fun hHeld => ?_)
                    refine with_tabW impl_round.tab14 impl_round.bits14 (fun HT_ HW_ => ?_)
                    refine pI 0 (some 69) HT_.out ?_
                    refine pI 1 (some 70) HT_.out ?_
                    refine pI 2 (some 71) HT_.out ?_
                    refine pI 3 (some 72) HT_.out ?_
                    refine pI 4 (some 73) HT_.out ?_
                    refine pI 5 (some 74) HT_.out ?_
                    refine pI 6 (some 75) HT_.out ?_
                    refine pI 7 (some 76) HT_.out ?_
                    refine pI 8 (some 77) HT_.out ?_
                    refine pI 9 (some 78) HT_.out ?_
                    refine pI 10 (some 79) HT_.out ?_
                    refine pI 11 (some 80) HT_.out ?_
                    refine pI 12 (some 81) HT_.out ?_
                    refine pI 13 (some 82) HT_.out ?_
                    refine pI 14 (some 83) HT_.out ?_
                    refine pI 15 (some 84) HT_.out ?_
                    refine pI 17 (some 86) HT_.out ?_
                    refine pI 19 (some 88) HT_.out ?_
                    refine pI 20 (some 89) HT_.out ?_
                    refine pI 21 (some 90) HT_.out ?_
                    refine pI 22 (some 91) HT_.out ?_
                    refine pI 23 (some 92) HT_.out ?_
                    refine tI2 16 (some 85) HT_.out HW_.out hHeld ?_
                    refine pI 18 (some 87) HT_.out ?_
                    refine tI2 24 (some 93) HT_.out HW_.out hHeld ?_
                    refine oI 25 (some 94) HT_.out (fun K hK => ?_)
                    refine goes_ Tryz.func152 (by kernel_rfl) rfl #[.int .u64 (Go.bits .xor .u64 (ga s z2.toNat) (Go.bits .xor .u64 (ga (cst s 5) a2.toNat) (rl (ga (cst s 5) b2.toNat) 1))), .int .i64 (ga turnsL z2.toNat)] (by rfl) rfl rfl (by simp only [List.map_toArray, List.map_cons, List.map_nil]; rfl) ?_
                    with_reducible refine (bits_RotateLeft64.calls _ _ _ _ HRb.out).mono ?_
                    rintro e w3_ ⟨rfl, ⟨nd, rfl⟩⟩
                    refine ⟨_, rfl, ?_⟩
                    refine hK.out _ _ ⟨(by exact hHeld.1), (by exact hHeld.2)⟩ (fun hHeld => ?_)
                    clear hK K
                    refine nO (some 94) ?_
                    refine pI 26 (some 95) HT_.out ?_
                    refine last_ (i := 27) (N := none) #[true, true, true, true, true, true, true, true, true, true, true, true, true, true, true, true, true, true, true, true, true, true, true, true, true, true, true, true] rfl rfl (one_of HT_.out (by kernel_rfl)) (by decide) (fun K hK => ?_)
                    refine skip_ (w1 := ?_) (by rfl) rfl ?_ ?_
                    rotate_left
                    · go_simp
                      rfl
                    refine hK.out _ _ ?_
                    clear hK K
                    refine done_ (done_of HT_.out (by kernel_rfl)) ?_
                    go_wp2
                    go_roundg k3
                    case measure => omega
                    case rel => exact ⟨K3 + 1, _, rfl, ⟨by have := HK2.out; have := HC2.out; have := HK3.out; have := HC3.out; have := HS.out; have := ea1.out; have := ea2.out; have := eb1.out; have := eb2.out; have := em1.out; have := em2.out; have := em3.out; have := em4.out; have := em5.out; have := em6.out; have := ez1.out; have := ez2.out; first | omega | (unfold wrap64; omega), by have := HK2.out; have := HC2.out; have := HK3.out; have := HC3.out; have := HS.out; have := ea1.out; have := ea2.out; have := eb1.out; have := eb2.out; have := em1.out; have := em2.out; have := em3.out; have := em4.out; have := em5.out; have := em6.out; have := ez1.out; have := ez2.out; omega, by have := HK2.out; have := HC2.out; have := HK3.out; have := HC3.out; have := HS.out; have := ea1.out; have := ea2.out; have := eb1.out; have := eb2.out; have := em1.out; have := em2.out; have := em3.out; have := em4.out; have := em5.out; have := em6.out; have := ez1.out; have := ez2.out; omega⟩, ⟨by (with_reducible repeat (first | refine blk_drewN ?_ _ | refine blk_drew ?_)); refine blk_far ?_ (p := ⟨gb, _, none⟩) NEcb.out _; (with_reducible repeat (first | refine blk_drewN ?_ _ | refine blk_drew ?_)); exact BKc.out⟩, ⟨by (with_reducible repeat (first | refine blk_drewN ?_ _ | refine blk_drew ?_)); refine blk_far ?_ (p := ⟨gb, _, none⟩) NEsb.out _; (with_reducible repeat (first | refine blk_drewN ?_ _ | refine blk_drew ?_)); exact BKs.out⟩, ⟨by (with_reducible repeat (first | refine blk_drewN ?_ _ | refine blk_drew ?_)); refine blk_put (cs := ue (bst s (cst s 5) (5 * K2 + K3))) (by (with_reducible repeat (first | refine blk_drewN ?_ _ | refine blk_drew ?_)); exact BKb.out) m6.toNat _ ?_; rw [ue_set, bst_succ s _ (by have := HK2.out; have := HC2.out; have := HK3.out; have := HC3.out; have := HS.out; have := ea1.out; have := ea2.out; have := eb1.out; have := eb2.out; have := em1.out; have := em2.out; have := em3.out; have := em4.out; have := em5.out; have := em6.out; have := ez1.out; have := ez2.out; omega)]; simp only [bat, dd]; rw [show m6.toNat = K2 + 5 * ((2 * K3 + 3 * K2) % 5) by have := HK2.out; have := HC2.out; have := HK3.out; have := HC3.out; have := HS.out; have := ea1.out; have := ea2.out; have := eb1.out; have := eb2.out; have := em1.out; have := em2.out; have := em3.out; have := em4.out; have := em5.out; have := em6.out; have := ez1.out; have := ez2.out; omega, show z2.toNat = K3 + 5 * K2 by have := HK2.out; have := HC2.out; have := HK3.out; have := HC3.out; have := HS.out; have := ea1.out; have := ea2.out; have := eb1.out; have := eb2.out; have := em1.out; have := em2.out; have := em3.out; have := em4.out; have := em5.out; have := em6.out; have := ez1.out; have := ez2.out; omega, show a2.toNat = (K3 + 4) % 5 by have := HK2.out; have := HC2.out; have := HK3.out; have := HC3.out; have := HS.out; have := ea1.out; have := ea2.out; have := eb1.out; have := eb2.out; have := em1.out; have := em2.out; have := em3.out; have := em4.out; have := em5.out; have := em6.out; have := ez1.out; have := ez2.out; omega, show b2.toNat = (K3 + 1) % 5 by have := HK2.out; have := HC2.out; have := HK3.out; have := HC3.out; have := HS.out; have := ea1.out; have := ea2.out; have := eb1.out; have := eb2.out; have := em1.out; have := em2.out; have := em3.out; have := em4.out; have := em5.out; have := em6.out; have := ez1.out; have := ez2.out; omega]⟩, ⟨(by repeat (first | exact HB.out | apply Below.drew | apply pw_below_drewN | refine Below.setCell ?_ GEs.out _ | refine Below.setCell ?_ GEc.out _ | refine Below.setCell ?_ GEb.out _))⟩⟩
                  · have c0 : decide (x < 5) = false := decide_eq_false (by have := HK3.out; omega)
                    obtain rfl : K3 = 5 := by have := HK3.out; omega
                    clear c HK3
                    go_wp2
                    go_roundg k2
                    case measure => omega
                    case rel => exact ⟨K2 + 1, _, rfl, ⟨by have := HK2.out; have := HC2.out; first | omega | (unfold wrap64; omega), by have := HK2.out; have := HC2.out; omega, by have := HK2.out; have := HC2.out; omega⟩, ⟨by (with_reducible repeat (first | refine blk_drewN ?_ _ | refine blk_drew ?_)); exact BKc.out⟩, ⟨by (with_reducible repeat (first | refine blk_drewN ?_ _ | refine blk_drew ?_)); exact BKs.out⟩, ⟨by rw [show 5 * (K2 + 1) = 5 * K2 + 5 by omega]; (with_reducible repeat (first | refine blk_drewN ?_ _ | refine blk_drew ?_)); exact BKb.out⟩, ⟨(by repeat (first | exact HB.out | apply Below.drew | apply pw_below_drewN | refine Below.setCell ?_ GEs.out _ | refine Below.setCell ?_ GEc.out _ | refine Below.setCell ?_ GEb.out _))⟩⟩
            · have c0 : decide (y < 5) = false := decide_eq_false (by have := HK2.out; omega)
              obtain rfl : K2 = 5 := by have := HK2.out; omega
              clear c HK2
              go_wp2
              go_loopg [98] 6 (fun kq v98 w' => ∃ (k : Nat) (x : Int), v98 = .int .i64 x ∧ Aside0 (x = (k : Int) ∧ k + kq = 6 ∧ k ≤ 5) ∧ Aside0 (w'.heap[g]? = some (.cells (ue (sst s (bst s (cst s 5) 25) (5 * k))) 95 (0, 0))) ∧ Aside0 (w'.heap[gb]? = some (.cells (ue (bst s (cst s 5) 25)) 95 (0, 0))) ∧ Aside0 (Below w0.heap.size w0 w'))
              case atStart => exact ⟨0, 0, rfl, ⟨rfl, rfl, by decide⟩, ⟨by (with_reducible repeat (first | refine blk_drewN ?_ _ | refine blk_drew ?_)); exact BKs.out⟩, ⟨by (with_reducible repeat (first | refine blk_drewN ?_ _ | refine blk_drew ?_)); exact BKb.out⟩, ⟨(by repeat (first | exact HB.out | apply Below.drew | apply pw_below_drewN | refine Below.setCell ?_ GEs.out _ | refine Below.setCell ?_ GEc.out _ | refine Below.setCell ?_ GEb.out _))⟩⟩
              case round =>
                clear BKc BKs BKb HB
                clear c0
                obtain ⟨K2, y, rfl, HK2, BKs, BKb, HB⟩ := hrel
                cases gk with
                | zero => exact absurd HK2.out (by omega)
                | succ k2 =>
                  by_cases c : K2 < 5
                  · have c0 : decide (y < 5) = true := decide_eq_true (by have := HK2.out; omega)
                    have HC2 := Aside0.mk c
                    clear c
                    go_wp2
                    go_loopg [101] 6 (fun kq v101 w' => ∃ (k : Nat) (x : Int), v101 = .int .i64 x ∧ Aside0 (x = (k : Int) ∧ k + kq = 6 ∧ k ≤ 5) ∧ Aside0 (w'.heap[g]? = some (.cells (ue (sst s (bst s (cst s 5) 25) (5 * K2 + k))) 95 (0, 0))) ∧ Aside0 (w'.heap[gb]? = some (.cells (ue (bst s (cst s 5) 25)) 95 (0, 0))) ∧ Aside0 (Below w0.heap.size w0 w'))
                    case atStart => exact ⟨0, 0, rfl, ⟨rfl, rfl, by decide⟩, ⟨by (with_reducible repeat (first | refine blk_drewN ?_ _ | refine blk_drew ?_)); exact BKs.out⟩, ⟨by (with_reducible repeat (first | refine blk_drewN ?_ _ | refine blk_drew ?_)); exact BKb.out⟩, ⟨(by repeat (first | exact HB.out | apply Below.drew | apply pw_below_drewN | refine Below.setCell ?_ GEs.out _ | refine Below.setCell ?_ GEc.out _ | refine Below.setCell ?_ GEb.out _))⟩⟩
                    case round =>
                      clear BKs BKb HB
                      clear c0
                      obtain ⟨K3, x, rfl, HK3, BKs, BKb, HB⟩ := hrel
                      cases gk with
                      | zero => exact absurd HK3.out (by omega)
                      | succ k3 =>
                        by_cases c : K3 < 5
                        · have c0 : decide (x < 5) = true := decide_eq_true (by have := HK3.out; omega)
                          have HC3 := Aside0.mk c
                          clear c
                          obtain ⟨z1, hz1, ez1⟩ : ∃ y_, wrap64 (5 * y) = y_ ∧ Aside0 (y_ = ((5 * K2 : Nat) : Int)) := ⟨_, rfl, ⟨by have := HK2.out; have := HC2.out; have := HK3.out; have := HC3.out; have := HS.out; first | (unfold wrap64; omega) | (rw [Int.tmod_eq_emod_of_nonneg (by omega)]; omega)⟩⟩
                          obtain ⟨z2, hz2, ez2⟩ : ∃ y_, wrap64 (x + z1) = y_ ∧ Aside0 (y_ = ((K3 + 5 * K2 : Nat) : Int)) := ⟨_, rfl, ⟨by have := HK2.out; have := HC2.out; have := HK3.out; have := HC3.out; have := HS.out; have := ez1.out; first | (unfold wrap64; omega) | (rw [Int.tmod_eq_emod_of_nonneg (by omega)]; omega)⟩⟩
                          obtain ⟨c1, hc1, ec1⟩ : ∃ y_, wrap64 (x + 1) = y_ ∧ Aside0 (y_ = ((K3 + 1 : Nat) : Int)) := ⟨_, rfl, ⟨by have := HK2.out; have := HC2.out; have := HK3.out; have := HC3.out; have := HS.out; have := ez1.out; have := ez2.out; first | (unfold wrap64; omega) | (rw [Int.tmod_eq_emod_of_nonneg (by omega)]; omega)⟩⟩
                          obtain ⟨c2, hc2, ec2⟩ : ∃ y_, Int.tmod c1 5 = y_ ∧ Aside0 (y_ = (((K3 + 1) % 5 : Nat) : Int)) := ⟨_, rfl, ⟨by have := HK2.out; have := HC2.out; have := HK3.out; have := HC3.out; have := HS.out; have := ez1.out; have := ez2.out; have := ec1.out; first | (unfold wrap64; omega) | (rw [Int.tmod_eq_emod_of_nonneg (by omega)]; omega)⟩⟩
                          obtain ⟨c3, hc3, ec3⟩ : ∃ y_, wrap64 (c2 + z1) = y_ ∧ Aside0 (y_ = (((K3 + 1) % 5 + 5 * K2 : Nat) : Int)) := ⟨_, rfl, ⟨by have := HK2.out; have := HC2.out; have := HK3.out; have := HC3.out; have := HS.out; have := ez1.out; have := ez2.out; have := ec1.out; have := ec2.out; first | (unfold wrap64; omega) | (rw [Int.tmod_eq_emod_of_nonneg (by omega)]; omega)⟩⟩
                          obtain ⟨d1, hd1, ed1⟩ : ∃ y_, wrap64 (x + 2) = y_ ∧ Aside0 (y_ = ((K3 + 2 : Nat) : Int)) := ⟨_, rfl, ⟨by have := HK2.out; have := HC2.out; have := HK3.out; have := HC3.out; have := HS.out; have := ez1.out; have := ez2.out; have := ec1.out; have := ec2.out; have := ec3.out; first | (unfold wrap64; omega) | (rw [Int.tmod_eq_emod_of_nonneg (by omega)]; omega)⟩⟩
                          obtain ⟨d2, hd2, ed2⟩ : ∃ y_, Int.tmod d1 5 = y_ ∧ Aside0 (y_ = (((K3 + 2) % 5 : Nat) : Int)) := ⟨_, rfl, ⟨by have := HK2.out; have := HC2.out; have := HK3.out; have := HC3.out; have := HS.out; have := ez1.out; have := ez2.out; have := ec1.out; have := ec2.out; have := ec3.out; have := ed1.out; first | (unfold wrap64; omega) | (rw [Int.tmod_eq_emod_of_nonneg (by omega)]; omega)⟩⟩
                          obtain ⟨d3, hd3, ed3⟩ : ∃ y_, wrap64 (d2 + z1) = y_ ∧ Aside0 (y_ = (((K3 + 2) % 5 + 5 * K2 : Nat) : Int)) := ⟨_, rfl, ⟨by have := HK2.out; have := HC2.out; have := HK3.out; have := HC3.out; have := HS.out; have := ez1.out; have := ez2.out; have := ec1.out; have := ec2.out; have := ec3.out; have := ed1.out; have := ed2.out; first | (unfold wrap64; omega) | (rw [Int.tmod_eq_emod_of_nonneg (by omega)]; omega)⟩⟩
                          have pz2 : (0 ≤ z2) = True := eq_true (by have := HK2.out; have := HC2.out; have := HK3.out; have := HC3.out; have := HS.out; have := ez1.out; have := ez2.out; have := ec1.out; have := ec2.out; have := ec3.out; have := ed1.out; have := ed2.out; have := ed3.out; omega)
                          have qz2_25 : (z2 < 25) = True := eq_true (by have := HK2.out; have := HC2.out; have := HK3.out; have := HC3.out; have := HS.out; have := ez1.out; have := ez2.out; have := ec1.out; have := ec2.out; have := ec3.out; have := ed1.out; have := ed2.out; have := ed3.out; omega)
                          have pc3 : (0 ≤ c3) = True := eq_true (by have := HK2.out; have := HC2.out; have := HK3.out; have := HC3.out; have := HS.out; have := ez1.out; have := ez2.out; have := ec1.out; have := ec2.out; have := ec3.out; have := ed1.out; have := ed2.out; have := ed3.out; omega)
                          have qc3_25 : (c3 < 25) = True := eq_true (by have := HK2.out; have := HC2.out; have := HK3.out; have := HC3.out; have := HS.out; have := ez1.out; have := ez2.out; have := ec1.out; have := ec2.out; have := ec3.out; have := ed1.out; have := ed2.out; have := ed3.out; omega)
                          have pd3 : (0 ≤ d3) = True := eq_true (by have := HK2.out; have := HC2.out; have := HK3.out; have := HC3.out; have := HS.out; have := ez1.out; have := ez2.out; have := ec1.out; have := ec2.out; have := ec3.out; have := ed1.out; have := ed2.out; have := ed3.out; omega)
                          have qd3_25 : (d3 < 25) = True := eq_true (by have := HK2.out; have := HC2.out; have := HK3.out; have := HC3.out; have := HS.out; have := ez1.out; have := ez2.out; have := ec1.out; have := ec2.out; have := ec3.out; have := ed1.out; have := ed2.out; have := ed3.out; omega)
                          have hc0 : wr.cell? ⟨gb, z2.toNat, none⟩ = some (.int .u64 (ga (bst s (cst s 5) 25) z2.toNat)) := (blk_cell BKb.out _).trans (ue_get (by rw [bst_len]; have := HK2.out; have := HC2.out; have := HK3.out; have := HC3.out; have := HS.out; have := ez1.out; have := ez2.out; have := ec1.out; have := ec2.out; have := ec3.out; have := ed1.out; have := ed2.out; have := ed3.out; omega))
                          have hc1 : wr.cell? ⟨gb, c3.toNat, none⟩ = some (.int .u64 (ga (bst s (cst s 5) 25) c3.toNat)) := (blk_cell BKb.out _).trans (ue_get (by rw [bst_len]; have := HK2.out; have := HC2.out; have := HK3.out; have := HC3.out; have := HS.out; have := ez1.out; have := ez2.out; have := ec1.out; have := ec2.out; have := ec3.out; have := ed1.out; have := ed2.out; have := ed3.out; omega))
                          have hc2 : wr.cell? ⟨gb, d3.toNat, none⟩ = some (.int .u64 (ga (bst s (cst s 5) 25) d3.toNat)) := (blk_cell BKb.out _).trans (ue_get (by rw [bst_len]; have := HK2.out; have := HC2.out; have := HK3.out; have := HC3.out; have := HS.out; have := ez1.out; have := ez2.out; have := ec1.out; have := ec2.out; have := ec3.out; have := ed1.out; have := ed2.out; have := ed3.out; omega))
                          have hst : wr.cell? ⟨g, z2.toNat, none⟩ = some (.int .u64 (ga (sst s (bst s (cst s 5) 25) (5 * K2 + K3)) z2.toNat)) := (blk_cell BKs.out _).trans (ue_get (by rw [sst_len]; have := HK2.out; have := HC2.out; have := HK3.out; have := HC3.out; have := HS.out; have := ez1.out; have := ez2.out; have := ec1.out; have := ec2.out; have := ec3.out; have := ed1.out; have := ed2.out; have := ed3.out; omega))
                          have hfz : wr.frozen? ⟨g, z2.toNat, none⟩ = false := blk_frozen BKs.out _
                          go_wp2
                          refine start_ (n := 33) (S := fun w' => w'.cell? ⟨gb, z2.toNat, none⟩ = some (.int .u64 (ga (bst s (cst s 5) 25) z2.toNat)) ∧ w'.cell? ⟨gb, c3.toNat, none⟩ = some (.int .u64 (ga (bst s (cst s 5) 25) c3.toNat)) ∧ w'.cell? ⟨gb, d3.toNat, none⟩ = some (.int .u64 (ga (bst s (cst s 5) 25) d3.toNat))) (ds := [32]) #[false, false, false, false, false, false, false, false, false, false, false, false, false, false, false, false, false, false, false, false, false, false, false, false, false, false, false, false, false, false, false, false, false] (by kernel_rfl) rfl rfl ⟨hc0, hc1, hc2⟩ (fun hHeld => ?_)
                          refine with_tabW impl_round.tab23 impl_round.bits23 (fun HT_ HW_ => ?_)
                          refine pI 0 (some 104) HT_.out ?_
                          refine pI 1 (some 105) HT_.out ?_
                          refine pI 2 (some 106) HT_.out ?_
                          refine pI 3 (some 107) HT_.out ?_
                          refine pI 4 (some 108) HT_.out ?_
                          refine pI 5 (some 109) HT_.out ?_
                          refine pI 6 (some 110) HT_.out ?_
                          refine pI 7 (some 111) HT_.out ?_
                          refine pI 8 (some 112) HT_.out ?_
                          refine pI 9 (some 113) HT_.out ?_
                          refine pI 11 (some 115) HT_.out ?_
                          refine pI 12 (some 116) HT_.out ?_
                          refine pI 13 (some 117) HT_.out ?_
                          refine pI 14 (some 118) HT_.out ?_
                          refine pI 15 (some 119) HT_.out ?_
                          refine pI 16 (some 120) HT_.out ?_
                          refine pI 17 (some 121) HT_.out ?_
                          refine pI 20 (some 124) HT_.out ?_
                          refine pI 21 (some 125) HT_.out ?_
                          refine pI 22 (some 126) HT_.out ?_
                          refine pI 23 (some 127) HT_.out ?_
                          refine pI 24 (some 128) HT_.out ?_
                          refine pI 25 (some 129) HT_.out ?_
                          refine pI 26 (some 130) HT_.out ?_
                          refine pI 30 (some 134) HT_.out ?_
                          refine tI3 10 (some 114) HT_.out HW_.out hHeld ?_
                          refine tI3 18 (some 122) HT_.out HW_.out hHeld ?_
                          refine pI 19 (some 123) HT_.out ?_
                          refine tI3 27 (some 131) HT_.out HW_.out hHeld ?_
                          refine pI 28 (some 132) HT_.out ?_
                          refine pI 29 (some 133) HT_.out ?_
                          refine pI 31 (some 135) HT_.out ?_
                          refine last_ (i := 32) (N := none) #[true, true, true, true, true, true, true, true, true, true, true, true, true, true, true, true, true, true, true, true, true, true, true, true, true, true, true, true, true, true, true, true, true] rfl rfl (one_of HT_.out (by kernel_rfl)) (by decide) (fun K hK => ?_)
                          refine skip_ (w1 := ?_) (by rfl) rfl ?_ ?_
                          rotate_left
                          · go_simp
                            rfl
                          refine hK.out _ _ ?_
                          clear hK K
                          refine done_ (done_of HT_.out (by kernel_rfl)) ?_
                          go_wp2
                          go_roundg k3
                          case measure => omega
                          case rel => exact ⟨K3 + 1, _, rfl, ⟨by have := HK2.out; have := HC2.out; have := HK3.out; have := HC3.out; have := HS.out; have := ez1.out; have := ez2.out; have := ec1.out; have := ec2.out; have := ec3.out; have := ed1.out; have := ed2.out; have := ed3.out; first | omega | (unfold wrap64; omega), by have := HK2.out; have := HC2.out; have := HK3.out; have := HC3.out; have := HS.out; have := ez1.out; have := ez2.out; have := ec1.out; have := ec2.out; have := ec3.out; have := ed1.out; have := ed2.out; have := ed3.out; omega, by have := HK2.out; have := HC2.out; have := HK3.out; have := HC3.out; have := HS.out; have := ez1.out; have := ez2.out; have := ec1.out; have := ec2.out; have := ec3.out; have := ed1.out; have := ed2.out; have := ed3.out; omega⟩, ⟨by (with_reducible repeat (first | refine blk_drewN ?_ _ | refine blk_drew ?_)); refine blk_put (cs := ue (sst s (bst s (cst s 5) 25) (5 * K2 + K3))) (by (with_reducible repeat (first | refine blk_drewN ?_ _ | refine blk_drew ?_)); exact BKs.out) z2.toNat _ ?_; rw [ue_set, sst_succ s _ (by have := HK2.out; have := HC2.out; have := HK3.out; have := HC3.out; have := HS.out; have := ez1.out; have := ez2.out; have := ec1.out; have := ec2.out; have := ec3.out; have := ed1.out; have := ed2.out; have := ed3.out; omega)]; simp only [chi, u64not]; rw [show z2.toNat = K3 + 5 * K2 by have := HK2.out; have := HC2.out; have := HK3.out; have := HC3.out; have := HS.out; have := ez1.out; have := ez2.out; have := ec1.out; have := ec2.out; have := ec3.out; have := ed1.out; have := ed2.out; have := ed3.out; omega, show c3.toNat = (K3 + 1) % 5 + 5 * K2 by have := HK2.out; have := HC2.out; have := HK3.out; have := HC3.out; have := HS.out; have := ez1.out; have := ez2.out; have := ec1.out; have := ec2.out; have := ec3.out; have := ed1.out; have := ed2.out; have := ed3.out; omega, show d3.toNat = (K3 + 2) % 5 + 5 * K2 by have := HK2.out; have := HC2.out; have := HK3.out; have := HC3.out; have := HS.out; have := ez1.out; have := ez2.out; have := ec1.out; have := ec2.out; have := ec3.out; have := ed1.out; have := ed2.out; have := ed3.out; omega]⟩, ⟨by (with_reducible repeat (first | refine blk_drewN ?_ _ | refine blk_drew ?_)); refine blk_far ?_ (p := ⟨g, _, none⟩) NEsb.out.symm _; (with_reducible repeat (first | refine blk_drewN ?_ _ | refine blk_drew ?_)); exact BKb.out⟩, ⟨(by repeat (first | exact HB.out | apply Below.drew | apply pw_below_drewN | refine Below.setCell ?_ GEs.out _ | refine Below.setCell ?_ GEc.out _ | refine Below.setCell ?_ GEb.out _))⟩⟩
                        · have c0 : decide (x < 5) = false := decide_eq_false (by have := HK3.out; omega)
                          obtain rfl : K3 = 5 := by have := HK3.out; omega
                          clear c HK3
                          go_wp2
                          go_roundg k2
                          case measure => omega
                          case rel => exact ⟨K2 + 1, _, rfl, ⟨by have := HK2.out; have := HC2.out; first | omega | (unfold wrap64; omega), by have := HK2.out; have := HC2.out; omega, by have := HK2.out; have := HC2.out; omega⟩, ⟨by rw [show 5 * (K2 + 1) = 5 * K2 + 5 by omega]; (with_reducible repeat (first | refine blk_drewN ?_ _ | refine blk_drew ?_)); exact BKs.out⟩, ⟨by (with_reducible repeat (first | refine blk_drewN ?_ _ | refine blk_drew ?_)); exact BKb.out⟩, ⟨(by repeat (first | exact HB.out | apply Below.drew | apply pw_below_drewN | refine Below.setCell ?_ GEs.out _ | refine Below.setCell ?_ GEc.out _ | refine Below.setCell ?_ GEb.out _))⟩⟩
                  · have c0 : decide (y < 5) = false := decide_eq_false (by have := HK2.out; omega)
                    obtain rfl : K2 = 5 := by have := HK2.out; omega
                    clear c HK2
                    have pn : (0 ≤ n) = True := eq_true HN.out.1
                    have qn : (n < 24) = True := eq_true HN.out.2
                    have hc0 : wr.cell? ⟨g, 0, none⟩ = some (.int .u64 (ga (sst s (bst s (cst s 5) 25) 25) 0)) := (blk_cell BKs.out _).trans (ue_get (by rw [sst_len, HS.out]; decide))
                    have hc1 : wr.cell? ⟨1, n.toNat, none⟩ = some (.int .u64 (ga rcL n.toNat)) := (HB.out.cell (p := ⟨1, n.toNat, none⟩) HT.out.s.2).trans (HT.out.r _ (by have := HN.out; omega))
                    have hfz : wr.frozen? ⟨g, 0, none⟩ = false := blk_frozen BKs.out _
                    go_wp2
                    refine start_ (n := 11) (S := fun w' => w'.cell? ⟨g, 0, none⟩ = some (.int .u64 (ga (sst s (bst s (cst s 5) 25) 25) 0)) ∧ w'.cell? ⟨1, n.toNat, none⟩ = some (.int .u64 (ga rcL n.toNat))) (ds := [10]) #[false, false, false, false, false, false, false, false, false, false, false] (by kernel_rfl) rfl rfl ⟨hc0, hc1⟩ (fun hHeld => ?_)
                    refine with_tabW impl_round.tab26 impl_round.bits26 (fun HT_ HW_ => ?_)
                    refine pI 0 (some 138) HT_.out ?_
                    refine pI 1 (some 139) HT_.out ?_
                    refine pI 2 (some 140) HT_.out ?_
                    refine pI 4 (some 142) HT_.out ?_
                    refine pI 5 (some 143) HT_.out ?_
                    refine pI 8 (some 146) HT_.out ?_
                    refine tI2 3 (some 141) HT_.out HW_.out hHeld ?_
                    refine tI2 6 (some 144) HT_.out HW_.out hHeld ?_
                    refine pI 7 (some 145) HT_.out ?_
                    refine pI 9 (some 147) HT_.out ?_
                    refine last_ (i := 10) (N := none) #[true, true, true, true, true, true, true, true, true, true, true] rfl rfl (one_of HT_.out (by kernel_rfl)) (by decide) (fun K hK => ?_)
                    refine skip_ (w1 := ?_) (by rfl) rfl ?_ ?_
                    rotate_left
                    · go_simp
                      rfl
                    refine hK.out _ _ ?_
                    clear hK K
                    refine done_ (done_of HT_.out (by kernel_rfl)) ?_
                    go_wp2
                    go_end0
                    exact ⟨rfl, by (with_reducible repeat (first | refine blk_drewN ?_ _ | refine blk_drew ?_)); refine blk_put (cs := ue (sst s (bst s (cst s 5) 25) 25)) (by (with_reducible repeat (first | refine blk_drewN ?_ _ | refine blk_drew ?_)); exact BKs.out) 0 _ ?_; rw [ue_set]; rfl, (by repeat (first | exact HB.out | apply Below.drew | apply pw_below_drewN | refine Below.setCell ?_ GEs.out _ | refine Below.setCell ?_ GEc.out _ | refine Below.setCell ?_ GEb.out _))⟩
def rit (s : List Int) : Nat → List Int
  | 0 => s
  | k + 1 => roundI (rit s k) k
theorem rit_len (s : List Int) (k : Nat) : (rit s k).length = s.length := by
  induction k with
  | zero => rfl
  | succ k ih => simp [rit, roundI_len, ih]
set_option maxHeartbeats 4000000 in
set_option maxRecDepth 100000 in
theorem impl_rounds.calls (g : Nat) (s : List Int) (hs : s.length = 25) (w0 w : World) (hT : Tab w0) (hB : Below w0.heap.size w0 w) (hg : w0.heap.size ≤ g) (hA : w.heap[g]? = some (.cells (ue s) 95 (0, 0))) :
    Calls Tryz.prog 95 #[.pointer (some ⟨g, 0, none⟩)] w fun e w' => e = .returned (.tuple #[]) ∧ w'.heap[g]? = some (.cells (ue (rit s 24)) 95 (0, 0)) ∧ Below w0.heap.size w0 w' := by
  have HT := Aside0.mk hT
  have HB := Aside0.mk hB
  have BKs := Aside0.mk hA
  have GEs := Aside0.mk hg
  have HS := Aside0.mk hs
  clear hT hB hA hg hs
  go_enter Tryz.func95, Tryz.ntmps95
  go_wp2
  go_loopg [3] 25 (fun kq v3 w' => ∃ (k : Nat) (x : Int), v3 = .int .i64 x ∧ Aside0 (x = (k : Int) ∧ k + kq = 25 ∧ k ≤ 24) ∧ Aside0 (w'.heap[g]? = some (.cells (ue (rit s k)) 95 (0, 0))) ∧ Aside0 (Below w0.heap.size w0 w'))
  case atStart => exact ⟨0, 0, rfl, ⟨rfl, rfl, by decide⟩, ⟨by (with_reducible repeat (first | refine blk_drewN ?_ _ | refine blk_drew ?_)); exact BKs.out⟩, ⟨(by repeat (first | exact HB.out | apply Below.drew | apply pw_below_drewN | refine Below.setCell ?_ GEs.out _))⟩⟩
  case round =>
    clear BKs HB
    obtain ⟨K1, x, rfl, HK1, BKs, HB⟩ := hrel
    cases gk with
    | zero => exact absurd HK1.out (by omega)
    | succ k1 =>
      by_cases c : K1 < 24
      · have c0 : decide (x < 24) = true := decide_eq_true (by have := HK1.out; omega)
        have HC1 := Aside0.mk c
        clear c
        go_wp2_with (first | (go_at_call 133; (with_reducible refine (impl_round.calls g (rit s K1) (by rw [rit_len]; exact HS.out) x (by have := HK1.out; omega) (by have := HK1.out; have := HC1.out; omega) w0 _ HT.out ?side1 GEs.out ?side2).mono ?_); (case side1 => exact (by repeat (first | exact HB.out | apply Below.drew | apply pw_below_drewN | refine Below.setCell ?_ GEs.out _))); (case side2 => ((with_reducible repeat (first | refine blk_drewN ?_ _ | refine blk_drew ?_)); exact BKs.out)); rintro e w1_ ⟨rfl, hk, hb⟩; have BKs := Aside0.mk hk; have HB := Aside0.mk hb; clear hk hb))
        go_roundg k1
        case measure => omega
        case rel => exact ⟨K1 + 1, _, rfl, ⟨by have := HK1.out; unfold wrap64; omega, by have := HK1.out; omega, by have := HK1.out; have := HC1.out; omega⟩, ⟨by have h_ := BKs.out; rw [show x.toNat = K1 by have := HK1.out; omega] at h_; (with_reducible repeat (first | refine blk_drewN ?_ _ | refine blk_drew ?_)); exact h_⟩, ⟨(by repeat (first | exact HB.out | apply Below.drew | apply pw_below_drewN | refine Below.setCell ?_ GEs.out _))⟩⟩
      · have c0 : decide (x < 24) = false := decide_eq_false (by have := HK1.out; omega)
        obtain rfl : K1 = 24 := by have := HK1.out; omega
        clear c
        go_wp2
        go_end0
        exact ⟨rfl, by (with_reducible repeat (first | refine blk_drewN ?_ _ | refine blk_drew ?_)); exact BKs.out, (by repeat (first | exact HB.out | apply Below.drew | apply pw_below_drewN | refine Below.setCell ?_ GEs.out _))⟩
end Go.Proofs.YtkdmplfldfagnaaGreatDoor.Kp
end
section
namespace Go.Proofs.YtkdmplfldfagnaaGreatDoor.Kp
open Go.RowKit Go.Proofs.YtkdmplfldfagnaaGreatDoorW.PrintWords Go.Proofs.YtkdmplfldfagnaaGreatDoorW.PrintLast Go.Proofs.YtkdmplfldfagnaaGreatDoorW.PrintMore
attribute [local go_sem] max2_int min2_int max_two min_two max_three min_three max_four min_four   -- for this text's walks alone
set_option linter.unusedVariables false
set_option linter.unusedSimpArgs false
def impl_wordBytes.l0 : Nat → List Int → Int → Int → Option (List Int)
 | 0, _, _, _ => none
 | k + 1, x0, x1, x5 => if x5 < 8 then (if x0.length < 140737488355328 then (impl_wordBytes.l0 k (x0 ++ [(x1) % 256]) (x1 / 256) (wrap64 (x5 + 1))) else (none)) else (some x0)
def impl_wordBytes.f (k : Nat) (l0 : List Int) (a1 : Int) : Option (List Int) := impl_wordBytes.l0 k l0 a1 0
set_option maxHeartbeats 8000000 in
set_option maxRecDepth 100000 in
theorem impl_wordBytes.calls (k : Nat) (P0_ : Nat → Prop) (u9000_ : Value) (l0 : List Int) (a1 : Int) (r : List Int) (w0 w : World) (hB : Below w0.heap.size w0 w) (ho0 : Kd.R (Kd.int .u8) 5 w w0.heap.size P0_ u9000_ l0) (h : impl_wordBytes.f k l0 a1 = some r) :
  Calls Tryz.prog 134 #[u9000_, .int .u64 a1] w fun e w' => ∃ v0_ : Value, e = .returned (v0_) ∧ Kd.R (Kd.int .u8) 5 w' w0.heap.size (fun k_ => (P0_ k_ ∨ w.heap.size ≤ k_)) v0_ r ∧ Below w0.heap.size w0 w' ∧ Kept w w' (fun k_ => P0_ k_) := by
 have HO0 := Aside0.mk (show Kd.R (Kd.int .u8) 5 w w0.heap.size (fun k_ => (P0_ k_ ∨ w.heap.size ≤ k_)) u9000_ l0 from Kd.R_mono ho0 (fun k_ hk => (.inl hk)))
 have HK := Aside0.mk (Kept.refl w (fun k_ => P0_ k_))
 have HW0 := Aside0.mk hB.size
 have HB := Aside0.mk hB
 clear hB
 have H : (impl_wordBytes.l0 k l0 a1 0) = some r := h
 clear h
 have H' := Aside0.mk H
 clear H
 go_enter Tryz.func134, Tryz.ntmps134
 go_wp2
 go_loopg [0, 1, 5] k (fun kq v0 v1 v5 w' => ∃ (x0_1 : List Int) (x1_1 : Int) (x5_1 : Int), v1 = .int .u64 x1_1 ∧ v5 = .int .i64 x5_1 ∧ Aside0 (impl_wordBytes.l0 kq x0_1 x1_1 x5_1 = some r) ∧ Aside0 (kq ≤ k) ∧ Aside0 (Kd.R (Kd.int .u8) 5 w' w0.heap.size (fun k_ => (P0_ k_ ∨ w.heap.size ≤ k_)) v0 x0_1) ∧ Aside0 (Kept w w' (fun k_ => P0_ k_)) ∧ Aside0 (Below w0.heap.size w0 w'))
 case atStart => exact ⟨(l0), (a1), (0), rS, rS, H', ⟨Nat.le_refl _⟩, ⟨rP HO0⟩, ⟨by repeat (first | (with_reducible first | exact HK.out | apply Kept.alloc | apply Kept.drewN | apply Kept.drew) | exact HK.out)⟩, ⟨bZ HB⟩⟩
 case round =>
  clear H'
  try clear c1
  try clear p2
  obtain ⟨x0_1, x1_1, x5_1, rfl, rfl, HA, HK1, HO_0, HK, HB⟩ := hrel
  cases gk with
  | zero => exact absurd HA.out (by simp [impl_wordBytes.l0])
  | succ k1 =>
   have H := HA.out
   clear HA
   simp only [impl_wordBytes.l0] at H
   by_cases c3 : x5_1 < 8
   ·rw [if_pos c3] at H
    have c3b0 : decide (x5_1 < 8) = true := decide_eq_true c3
    clear c3
    by_cases c4 : x0_1.length < 140737488355328
    ·rw [if_pos c4] at H
     have LMc4 := Aside0.mk c4
     clear c4
     obtain ⟨y637, hy637⟩ : ∃ y_ : List Int, y_ = (x0_1 ++ [(x1_1) % 256]) := ⟨_, rfl⟩
     replace H : (impl_wordBytes.l0 k1 y637 (x1_1 / 256) (wrap64 (x5_1 + 1))) = some r := by first | (rw [hy637]; with_reducible exact H) | (have H2_ := (Option.bind_some _ _).symm.trans H; rw [hy637]; with_reducible exact H2_) | (have H2_ := (Option.bind_some _ _).symm.trans H; with_reducible exact H2_) | with_reducible exact H | (rw [hy637]; exact H) | exact H
     have Ny637 := Aside0.mk hy637
     clear hy637
     have H' := Aside0.mk H
     clear H
     go_wp2_with (first | ((with_reducible refine gate_builtin (b := .append) (xs := #[.tmp 7, .tmp 10]) rfl ?_); at_builtin; refine Kd.R_append (Kd.int .u8) (w0 := w0) w0.heap.size rfl (.tmp 7) (.tmp 10) 22 5 (.int .u8 0) 1 rfl Tryz.underlying22 info5 rfl (by decide) (by omega) u0 x0_1 ((x1_1) % 256) [.int .u8 ((x1_1) % 256)] (fun k_ => (P0_ k_ ∨ w.heap.size ≤ k_)) (fun _ => False) rfl rfl ?aP (fun _ hk => hk.elim) ?aF ?aO ?aB ?aS ?aL ?_; (case aP => exact rfl); (case aB => exact (bZ HB)); (case aF => exact (fun k_ hk => (.inr (Nat.le_trans (by first | exact HK.out.1 | exact (show Kept w _ (fun k_ => P0_ k_) from by repeat (first | (with_reducible first | exact HK.out | apply Kept.alloc | apply Kept.drewN | apply Kept.drew) | exact HK.out)).1) hk)))); (case aO => exact (rP HO_0)); (case aS => exact (below_size (bZ HB))); (case aL => have := LMc4.out; omega); intro v638 w5 ho hb hg hat; rw [← Ny637.out] at ho; replace HB := Aside0.mk (hb); replace HK := Aside0.mk (Kept.of_grown (S := (fun k_ => P0_ k_)) hg (by repeat (first | (with_reducible first | exact HK.out | apply Kept.alloc | apply Kept.drewN | apply Kept.drew) | exact HK.out)) (fun k_ e_ => (HO_0.out.1 k_ e_))); have HO639 := Aside0.mk (ho); clear HO_0; clear ho hb hg hat))
     go_roundg k1
     case measure => have := HK1.out; omega
     case rel => exact ⟨(y637), (x1_1 / 256), (wrap64 (x5_1 + 1)), rS, rS, H', ⟨by have := HK1.out; omega⟩, ⟨rP HO639⟩, ⟨by repeat (first | (with_reducible first | exact HK.out | apply Kept.alloc | apply Kept.drewN | apply Kept.drew) | exact HK.out)⟩, ⟨bZ HB⟩⟩
    ·rw [if_neg c4] at H
     exact absurd H (by simp)
   ·rw [if_neg c3] at H
    have c3b0 : decide (x5_1 < 8) = false := decide_eq_false c3
    clear c3
    obtain rfl := Option.some.inj H
    go_wp2
    go_ret
    exact ⟨_, by first | rfl | (simp [errW_none, errW_some] <;> rfl) | (simp [*, errW_none, errW_some] <;> rfl), by (with_reducible repeat (first | apply Kd.R_alloc | apply Kd.R_drewN | apply Kd.R_drew)); exact HO_0.out, bZ HB, by repeat (first | (with_reducible first | exact HK.out | apply Kept.alloc | apply Kept.drewN | apply Kept.drew) | exact HK.out)⟩
end Go.Proofs.YtkdmplfldfagnaaGreatDoor.Kp
end
section
namespace Go.Proofs.YtkdmplfldfagnaaGreatDoor.Kp
open Go.RowKit Go.Proofs.YtkdmplfldfagnaaGreatDoorW.PrintWords Go.Proofs.YtkdmplfldfagnaaGreatDoorW.PrintLast Go.Proofs.YtkdmplfldfagnaaGreatDoorW.PrintMore
set_option linter.unusedVariables false
set_option linter.unusedSimpArgs false
def b8 (x : Int) : List Int := [x % 256, x / 256 % 256, x / 256 / 256 % 256, x / 256 / 256 / 256 % 256, x / 256 / 256 / 256 / 256 % 256, x / 256 / 256 / 256 / 256 / 256 % 256, x / 256 / 256 / 256 / 256 / 256 / 256 % 256, x / 256 / 256 / 256 / 256 / 256 / 256 / 256 % 256]
theorem wordBytes_f (l : List Int) (x : Int) (h : l.length ≤ 1000) : impl_wordBytes.f 9 l x = some (l ++ b8 x) := by
  unfold impl_wordBytes.f
  have w1 : wrap64 (0 + 1) = 1 := by unfold wrap64; rfl
  have w2 : wrap64 (1 + 1) = 2 := by unfold wrap64; rfl
  have w3 : wrap64 (2 + 1) = 3 := by unfold wrap64; rfl
  have w4 : wrap64 (3 + 1) = 4 := by unfold wrap64; rfl
  have w5 : wrap64 (4 + 1) = 5 := by unfold wrap64; rfl
  have w6 : wrap64 (5 + 1) = 6 := by unfold wrap64; rfl
  have w7 : wrap64 (6 + 1) = 7 := by unfold wrap64; rfl
  have w8 : wrap64 (7 + 1) = 8 := by unfold wrap64; rfl
  simp only [impl_wordBytes.l0, w1, w2, w3, w4, w5, w6, w7, w8]
  simp only [show ((0 : Int) < 8) = True from eq_true (by decide), show ((1 : Int) < 8) = True from eq_true (by decide), show ((2 : Int) < 8) = True from eq_true (by decide), show ((3 : Int) < 8) = True from eq_true (by decide), show ((4 : Int) < 8) = True from eq_true (by decide), show ((5 : Int) < 8) = True from eq_true (by decide), show ((6 : Int) < 8) = True from eq_true (by decide), show ((7 : Int) < 8) = True from eq_true (by decide), show ((8 : Int) < 8) = False from eq_false (by decide), if_true, if_false, List.length_append, List.length_cons, List.length_nil]
  rw [if_pos (by omega), if_pos (by omega), if_pos (by omega), if_pos (by omega), if_pos (by omega), if_pos (by omega), if_pos (by omega), if_pos (by omega)]
  simp [b8]
def txl (s : List Int) : Nat → List Int
  | 0 => []
  | k + 1 => txl s k ++ b8 (ga s k)
theorem txl_len (s : List Int) (k : Nat) : (txl s k).length = 8 * k := by
  induction k with
  | zero => rfl
  | succ k ih => simp only [txl, List.length_append, ih]; simp [b8]; omega
set_option maxHeartbeats 4000000 in
set_option maxRecDepth 100000 in
theorem impl_text.calls (g : Nat) (s : List Int) (hs : s.length = 25) (w : World) (hA : w.heap[g]? = some (.cells (ue s) 95 (0, 0))) :
    Calls Tryz.prog 96 #[.pointer (some ⟨g, 0, none⟩)] w fun e w' => e = .returned (.string (strOfNums (txl s 25))) ∧ Below w.heap.size w w' := by
  have HB := Aside0.mk (Below.refl w.heap.size w)
  have BKs := Aside0.mk hA
  have HS := Aside0.mk hs
  clear hA hs
  obtain ⟨i0, hi, hz0, hz1, hz2⟩ := info_parts info5
  go_enter Tryz.func96, Tryz.ntmps96
  go_wp2_with (first | ((with_reducible refine gate_dst (N := 6) rfl ?_); refine wpList_make_own _ rfl _ _ 22 rfl w.heap.size 5 i0 (.int .u8 0) 1 Tryz.underlying22 hi hz0 hz1 .i64 .i64 200 200 rfl rfl rfl (by rw [hz2]; decide) (by decide) (Nat.le_refl _) ?_; intro w1_ ho hgr; have HO := Aside0.mk (show Kd.R (Kd.int .u8) 5 w1_ w.heap.size (fun _ => True) _ ([] : List Int) from Kd.R_of_own (h1 := fun _ => rfl) ho (fun _ _ => trivial)); have n0_ := Aside0.mk (Below.grown HB.out hgr (Nat.le_refl _) (fun _ h => by cases h)); clear HB; have HB := n0_; clear n0_ ho hgr))
  go_loopg [3, 8] 26 (fun kq v3 v8 w' => ∃ (k : Nat) (x : Int) (u : Value), v3 = u ∧ v8 = .int .i64 x ∧ Aside0 (x = (k : Int) ∧ k + kq = 26 ∧ k ≤ 25) ∧ Aside0 (Kd.R (Kd.int .u8) 5 w' w.heap.size (fun _ => True) u (txl s k)) ∧ Aside0 (Below w.heap.size w w'))
  case atStart => exact ⟨0, 0, _, rfl, rfl, ⟨rfl, rfl, by decide⟩, ⟨rP HO⟩, ⟨(by repeat (first | exact HB.out | apply Below.drew | apply pw_below_drewN | refine Below.setCell ?_ GEs.out _))⟩⟩
  case round =>
    clear HB HO
    obtain ⟨K1, x, u, rfl, rfl, HK1, HO, HB⟩ := hrel
    cases gk with
    | zero => exact absurd HK1.out (by omega)
    | succ k1 =>
      by_cases c : K1 < 25
      · have c0 : decide (x < 25) = true := decide_eq_true (by have := HK1.out; omega)
        have HC1 := Aside0.mk c
        clear c
        have px : (0 ≤ x) = True := eq_true (by have := HK1.out; omega)
        have qx : (x < 25) = True := eq_true (by have := HK1.out; have := HC1.out; omega)
        have hc0 : wr.cell? ⟨g, x.toNat, none⟩ = some (.int .u64 (ga s x.toNat)) := (blk_cell ((HB.out.block g (blk_lt BKs.out)).trans BKs.out) _).trans (ue_get (by rw [HS.out]; have := HK1.out; have := HC1.out; omega))
        go_wp2_with (first | (go_at_call 134; (with_reducible refine (impl_wordBytes.calls 9 (fun _ => True) _ (txl s K1) (ga s x.toNat) _ w _ ?side1 ?side2 (wordBytes_f _ _ (by rw [txl_len]; have := HC1.out; omega))).mono ?_); (case side1 => exact (by repeat (first | exact HB.out | apply Below.drew | apply pw_below_drewN | refine Below.setCell ?_ GEs.out _))); (case side2 => (with_reducible repeat (first | apply Kd.R_alloc | apply Kd.R_drewN | apply Kd.R_drew)); exact HO.out); rintro e w2_ ⟨v4, rfl, ho, hb, hk⟩; have n0_ := Aside0.mk (Kd.R_mono ho (fun _ _ => trivial) : Kd.R (Kd.int .u8) 5 w2_ w.heap.size (fun _ => True) v4 _); have n1_ := Aside0.mk hb; clear HO HB; have HO := n0_; have HB := n1_; clear n0_ n1_ ho hb hk))
        go_roundg k1
        case measure => omega
        case rel => exact ⟨K1 + 1, _, _, rfl, rfl, ⟨by have := HK1.out; unfold wrap64; omega, by have := HK1.out; omega, by have := HK1.out; have := HC1.out; omega⟩, ⟨by have h_ := HO.out; rw [show x.toNat = K1 by have := HK1.out; omega] at h_; (with_reducible repeat (first | apply Kd.R_alloc | apply Kd.R_drewN | apply Kd.R_drew)); exact h_⟩, ⟨(by repeat (first | exact HB.out | apply Below.drew | apply pw_below_drewN | refine Below.setCell ?_ GEs.out _))⟩⟩
      · have c0 : decide (x < 25) = false := decide_eq_false (by have := HK1.out; omega)
        obtain rfl : K1 = 25 := by have := HK1.out; omega
        clear c
        have hcv := own_string (P := Tryz.prog) Tryz.underlying22 Tryz.underlying5 Tryz.underlying9 (Kd.own_of_R HO.out)
        go_wp2
        go_ret
        exact ⟨rfl, (by repeat (first | exact HB.out | apply Below.drew | apply pw_below_drewN | refine Below.setCell ?_ GEs.out _))⟩
section
variable {P : Program} {ops : Array Oper} {rest : List Oper} {o : Oper} {a : Act} {Q : Exit → Act → World → Prop}
theorem below_bytesWorld (W : World) (e : TypeId) (s : ByteArray) : Below W.heap.size W (Lib.bytesWorld W e s) :=
  ⟨rfl, rfl, rfl, by rw [Lib.bytesWorld_size]; omega, fun k hk => Lib.bytesWorld_at_old W e s k hk⟩
theorem conv_event {W : World} (hgd : o.guard = none) {N : Tmp} (_hd : o.dst = some N) {src dst e : TypeId} {x : Operand} (ho : o.op = .convert src dst x) {S : ByteArray} (hx : a.eval x = .string S)
    (hs : P.underlying src = some .string) (hd : P.underlying dst = some (.slice e)) (he : P.underlying e = some (.int .u8))
    (h : ∀ g c cs w1, g = W.heap.size → w1.heap[g]? = some (.cells cs e (cs.size, cs.size + 1)) → S.size ≤ cs.size → (∀ i, i < S.size → w1.cell? ⟨g, i, none⟩ = some (.int .u8 (S.data.toList.getD i 0).toNat)) → Below W.heap.size W w1 →
      wpList P ops Q rest (a.put o.dst (.slice (some ⟨g, 0, none⟩) S.size c)) w1) : wpList P ops Q (o :: rest) a W := by
  refine Kd.event_run hgd (v := .slice (some ⟨W.heap.size, 0, none⟩) S.size (grownCap W S.size 0 e)) (w1 := Lib.bytesWorld W e S) ?_ (h _ _ _ _ rfl (Lib.bytesWorld_at_new W e S) ?_ (fun i hi => Lib.bytesWorld_cell W e S i hi) (below_bytesWorld W e S))
  · have := Lib.run_convert_string_bytes (P := P) W src dst e S hs hd he
    unfold execOp
    rw [ho]
    dsimp only
    rw [hx]
    rw [Sem.run_bind, this]
    rfl
  · unfold Lib.bytesCells
    rw [Array.size_append, Array.size_map]
    exact Nat.le_add_right _ _
end
def Tryz.rep_ren : Go.Shelf.Ren := ⟨fun | 105 => 132 | 212 => 146 | 99 => 147 | 165 => 148 | 166 => 149 | 170 => 150 | 169 => 151 | 263 => 156 | 264 => 157 | 206 => 158 | 240 => 159 | 241 => 160 | 276 => 161 | 277 => 162 | n => n, fun | 9 => 9 | 3 => 3 | 4 => 4 | 20 => 20 | 0 => 0 | 46 => 70 | 109 => 123 | 5 => 5 | 72 => 128 | 76 => 131 | 51 => 110 | 146 => 138 | 53 => 93 | 148 => 140 | 70 => 126 | 37 => 22 | 75 => 130 | 127 => 142 | 164 => 143 | 80 => 97 | n => n, fun | n => n⟩
theorem Tryz.rep : Go.Proofs.Lays.n105 Tryz.prog Tryz.rep_ren := {
  mixed := by kernel_rfl
  f99 := Tryz.func147.trans (congrArg some (by kernel_rfl))
  f105 := Tryz.func132.trans (congrArg some (by kernel_rfl))
  f165 := Tryz.func148.trans (congrArg some (by kernel_rfl))
  f166 := Tryz.func149.trans (congrArg some (by kernel_rfl))
  f169 := Tryz.func151.trans (congrArg some (by kernel_rfl))
  f170 := Tryz.func150.trans (congrArg some (by kernel_rfl))
  f206 := Tryz.func158.trans (congrArg some (by kernel_rfl))
  f212 := Tryz.func146.trans (congrArg some (by kernel_rfl))
  f240 := Tryz.func159.trans (congrArg some (by kernel_rfl))
  f241 := Tryz.func160.trans (congrArg some (by kernel_rfl))
  f263 := Tryz.func156.trans (congrArg some (by kernel_rfl))
  f264 := Tryz.func157.trans (congrArg some (by kernel_rfl))
  f276 := Tryz.func161.trans (congrArg some (by kernel_rfl))
  f277 := Tryz.func162.trans (congrArg some (by kernel_rfl))
  t0 := Tryz.underlying0
  a0 := Tryz.isAgg0
  z0 := Tryz.sizeOf0
  v0 := Tryz.zeroValue0
  t3 := Tryz.underlying3
  a3 := Tryz.isAgg3
  z3 := Tryz.sizeOf3
  v3 := Tryz.zeroValue3
  t4 := Tryz.underlying4
  a4 := Tryz.isAgg4
  z4 := Tryz.sizeOf4
  v4 := Tryz.zeroValue4
  t5 := Tryz.underlying5
  a5 := Tryz.isAgg5
  z5 := Tryz.sizeOf5
  v5 := Tryz.zeroValue5
  t9 := Tryz.underlying9
  a9 := Tryz.isAgg9
  z9 := Tryz.sizeOf9
  v9 := Tryz.zeroValue9
  t20 := Tryz.underlying20
  a20 := Tryz.isAgg20
  z20 := Tryz.sizeOf20
  v20 := Tryz.zeroValue20
  t37 := Tryz.underlying22
  a37 := Tryz.isAgg22
  z37 := Tryz.sizeOf22
  v37 := Tryz.zeroValue22
  t46 := Tryz.underlying70
  a46 := Tryz.isAgg70
  z46 := Tryz.sizeOf70
  v46 := Tryz.zeroValue70
  t51 := Tryz.underlying110
  a51 := Tryz.isAgg110
  z51 := Tryz.sizeOf110
  v51 := Tryz.zeroValue110
  t53 := Tryz.underlying93
  a53 := Tryz.isAgg93
  z53 := Tryz.sizeOf93
  v53 := Tryz.zeroValue93
  t70 := Tryz.underlying126
  a70 := Tryz.isAgg126
  z70 := Tryz.sizeOf126
  v70 := Tryz.zeroValue126
  t72 := Tryz.underlying128
  a72 := Tryz.isAgg128
  z72 := Tryz.sizeOf128
  v72 := Tryz.zeroValue128
  t75 := Tryz.underlying130
  a75 := Tryz.isAgg130
  z75 := Tryz.sizeOf130
  v75 := Tryz.zeroValue130
  t76 := Tryz.underlying131
  a76 := Tryz.isAgg131
  z76 := Tryz.sizeOf131
  v76 := Tryz.zeroValue131
  t109 := Tryz.underlying123
  a109 := Tryz.isAgg123
  z109 := Tryz.sizeOf123
  v109 := Tryz.zeroValue123
  t127 := Tryz.underlying142
  a127 := Tryz.isAgg142
  z127 := Tryz.sizeOf142
  v127 := Tryz.zeroValue142
  t146 := Tryz.underlying138
  a146 := Tryz.isAgg138
  z146 := Tryz.sizeOf138
  v146 := Tryz.zeroValue138
  t148 := Tryz.underlying140
  a148 := Tryz.isAgg140
  z148 := Tryz.sizeOf140
  v148 := Tryz.zeroValue140
  t164 := Tryz.underlying143
  a164 := Tryz.isAgg143
  z164 := Tryz.sizeOf143
  v164 := Tryz.zeroValue143 }
theorem repExtra : Go.Proofs.Builder.Extra Tryz.prog Tryz.rep_ren := {
  sizeBuilder := by kernel_rfl
  liesBuilder := by kernel_rfl
  t5 := Tryz.rep.t5
  a5 := Tryz.rep.a5
  z5 := Tryz.rep.z5
  v5 := Tryz.rep.v5
  infoByte := by kernel_rfl
  cellsByte := by kernel_rfl
  sizeByte := by kernel_rfl
  neB5 := by decide }
theorem rep_calls (Z : Nat) (w : World) (h : Z ≤ 135) : Calls Tryz.prog 132 #[.string ⟨#[0]⟩, .int .i64 (Z : Int)] w fun e w' => e = .returned (.string ⟨(List.replicate Z (0 : UInt8)).toArray⟩) ∧ Below w.heap.size w w' := by
  have hr : Lib.repeatL (ByteArray.data (⟨#[0]⟩ : ByteArray)).toList Z = List.replicate Z (0 : UInt8) := by
    have := Lib.repeatL_replicate (0 : UInt8) 1 Z
    rwa [Nat.mul_one] at this
  have := Go.Proofs.Any.strings_Repeat Tryz.rep repExtra (⟨#[0]⟩ : ByteArray) Z w (by omega) (by show 1 * Z ≤ _; omega)
  rwa [hr] at this
theorem blkf_set {w : World} {g : Nat} {t : TypeId} {cs : Array Value} {fr : Nat × Nat} (h : w.heap[g]? = some (.cells cs t fr)) (i : Nat) (u : Value) : (w.setCell ⟨g, i, none⟩ u).heap[g]? = some (.cells (cs.setIfInBounds i u) t fr) := by
  simp [World.setCell, Array.getElem?_modify, h]
section
variable {P : Program} {ops : Array Oper} {rest : List Oper} {o : Oper} {a : Act} {Q : Exit → Act → World → Prop}
theorem conv2_event {W : World} (hgd : o.guard = none) {N : Tmp} (_hd : o.dst = some N) {src dst e : TypeId} {x : Operand} (ho : o.op = .convert src dst x) {g n c : Nat} (hx : a.eval x = .slice (some ⟨g, 0, none⟩) n c)
    (hs : P.underlying src = some (.slice e)) (he : P.underlying e = some (.int .u8)) (hd : P.underlying dst = some .string) (xs : List Int) (hlen : xs.length = n) (hcell : ∀ i, i < n → W.cell? ⟨g, i, none⟩ = some (.int .u8 (xs.getD i 0)))
    (h : wpList P ops Q rest (a.put o.dst (.string (strOfNums xs))) W) : wpList P ops Q (o :: rest) a W := by
  refine Kd.event_run hgd (v := .string (strOfNums xs)) (w1 := W) ?_ h
  have := run_convert_bytes_arg (P := P) W src e hs he g 0 n c xs hlen (fun i hi => by rw [Nat.zero_add]; exact hcell i hi) dst hd
  unfold execOp
  rw [ho]
  dsimp only
  rw [hx]
  rw [Sem.run_bind, this]
  rfl
end
def nb (t : ByteArray) : List Int := t.data.toList.map fun b => (b.toNat : Int)
theorem nb_len (t : ByteArray) : (nb t).length = t.size := by
  unfold nb
  rw [List.length_map]
  exact Array.length_toList
def padRaw (xs : List Int) : List Int := xs ++ [1] ++ List.replicate (135 - xs.length % 136) 0
def padL (xs : List Int) : List Int := (padRaw xs).set ((padRaw xs).length - 1) (Go.bits .or .u8 (ga (padRaw xs) ((padRaw xs).length - 1)) 128)
theorem nb_append (a b : ByteArray) : nb (a ++ b) = nb a ++ nb b := by
  unfold nb
  have : (a ++ b).data = a.data ++ b.data := by first | rfl | simp
  rw [this]
  simp
theorem nb_pad (t : ByteArray) (Z : Nat) (h : Z = 135 - t.size % 136) : nb (t ++ (⟨#[1]⟩ : ByteArray) ++ ⟨(List.replicate Z (0 : UInt8)).toArray⟩) = padRaw (nb t) := by
  rw [nb_append, nb_append]
  unfold padRaw
  rw [nb_len, ← h]
  congr 1
  simp [nb]
theorem nb_get (t : ByteArray) (i : Nat) (h : i < t.size) : ((t.data.toList.getD i 0).toNat : Int) = ga (nb t) i := by
  have h' : i < t.data.toList.length := by rw [Array.length_toList]; exact h
  unfold ga nb
  rw [List.getD_eq_getElem?_getD, List.getD_eq_getElem?_getD, List.getElem?_map, List.getElem?_eq_getElem h']
  rfl
theorem padL_len (xs : List Int) : (padL xs).length = (padRaw xs).length := by simp [padL]
theorem pad_cells {xs : List Int} {cs : Array Value} {n : Nat} (hl : (padRaw xs).length = n) (h0 : 0 < n) (hsz : n ≤ cs.size) (hcs : ∀ i, i < n → cs[i]? = some (.int .u8 (ga (padRaw xs) i))) (i : Nat) (hi : i < n) :
    (cs.setIfInBounds (n - 1) (.int .u8 (Go.bits .or .u8 (ga (padRaw xs) (n - 1)) 128)))[i]? = some (.int .u8 ((padL xs).getD i 0)) := by
  unfold padL
  rw [hl, Array.getElem?_setIfInBounds]
  by_cases h : n - 1 = i
  · rw [if_pos h, if_pos (by omega), List.getD_eq_getElem?_getD, List.getElem?_set, if_pos h, if_pos (by omega)]
    rfl
  · rw [if_neg h, hcs i hi, List.getD_eq_getElem?_getD, List.getElem?_set, if_neg h]
    rfl
set_option maxHeartbeats 4000000 in
set_option maxRecDepth 100000 in
theorem impl_KeccakPad.calls (t : ByteArray) (ht : t.size ≤ 140737488351232) (w : World) :
    Calls Tryz.prog 93 #[.string t] w fun e w' => e = .returned (.string (strOfNums (padL (nb t)))) ∧ Below w.heap.size w w' := by
  have HB := Aside0.mk (Below.refl w.heap.size w)
  have HTt := Aside0.mk ht
  obtain ⟨m, hm, em⟩ : ∃ y_, Int.tmod (t.size : Int) 136 = y_ ∧ Aside0 (y_ = ((t.size % 136 : Nat) : Int)) := ⟨_, rfl, ⟨by rw [Int.tmod_eq_emod_of_nonneg (by omega)]; omega⟩⟩
  obtain ⟨Z, hz, ez⟩ : ∃ Z : Nat, wrap64 (135 - m) = (Z : Int) ∧ Aside0 (Z = 135 - t.size % 136) := ⟨135 - t.size % 136, by have := em.out; unfold wrap64; omega, ⟨rfl⟩⟩
  obtain ⟨S, hS⟩ : ∃ S : ByteArray, S = (t ++ (⟨#[1]⟩ : ByteArray)) ++ ⟨(List.replicate Z (0 : UInt8)).toArray⟩ := ⟨_, rfl⟩
  have HSz := Aside0.mk (show S.size = t.size + 1 + Z by rw [hS, ByteArray.size_append, ByteArray.size_append]; show t.size + 1 + (List.replicate Z (0 : UInt8)).toArray.size = _; rw [List.size_toArray, List.length_replicate])
  have HSn := Aside0.mk (show nb S = padRaw (nb t) by rw [hS]; exact nb_pad t Z ez.out)
  have HSe := Aside0.mk hS
  have c1 : (9223372036854775807 < t.size + 1) = False := eq_false (by omega)
  have c2 : (t.size + 1 ≤ 9223372036854775807) = True := eq_true (by omega)
  have c3 : (9223372036854775807 < t.size + 1 + Z) = False := eq_false (by have := ez.out; omega)
  have c4 : (t.size + 1 + Z ≤ 9223372036854775807) = True := eq_true (by have := ez.out; omega)
  clear ht hS
  go_enter Tryz.func93, Tryz.ntmps93
  go_wp2_with (first | (go_at_call 132; (with_reducible refine (rep_calls Z _ (by have := ez.out; omega)).mono ?_); rintro e w1_ ⟨rfl, hb⟩; have n0_ := Aside0.mk (below_then (by repeat (first | exact HB.out | apply Below.drew | apply pw_below_drewN | refine Below.setCell ?_ GEs.out _)) (Below.size (by repeat (first | exact HB.out | apply Below.drew | apply pw_below_drewN | refine Below.setCell ?_ GEs.out _))) hb); clear HB; have HB := n0_; clear n0_ hb) | ((with_reducible refine gate_dst (N := 14) rfl ?_); refine conv_event ?hg (N := 14) ?hd (src := 9) (dst := 22) (e := 5) (S := S) rfl ?hx Tryz.underlying9 Tryz.underlying22 Tryz.underlying5 ?_; (case hg => rfl); (case hd => rfl); (case hx => rw [HSe.out]; rfl); intro g c cs w2_ hg hblk hsz hcell hb; have n0_ := Aside0.mk (below_then (by repeat (first | exact HB.out | apply Below.drew | apply pw_below_drewN | refine Below.setCell ?_ GEs.out _)) (Below.size (by repeat (first | exact HB.out | apply Below.drew | apply pw_below_drewN | refine Below.setCell ?_ GEs.out _))) hb); have GEs := Aside0.mk (show w.heap.size ≤ g by rw [hg]; exact Below.size (by repeat (first | exact HB.out | apply Below.drew | apply pw_below_drewN | refine Below.setCell ?_ GEs.out _))); clear HB; have HB := n0_; clear n0_ hb hg; have HBK := Aside0.mk hblk; have HSC := Aside0.mk hsz; have HCE := Aside0.mk (show ∀ i, i < S.size → cs[i]? = some (.int .u8 (ga (padRaw (nb t)) i)) from fun i hi => by rw [← cell_of_row w2_ g i cs _ _ hblk, hcell i hi, nb_get _ _ hi, HSn.out]); clear hblk hsz hcell; obtain ⟨li, hli, eli⟩ : ∃ y_, wrap64 ((S.size : Int) - 1) = y_ ∧ Aside0 (y_ = ((S.size - 1 : Nat) : Int)) := ⟨_, rfl, ⟨by have := HSz.out; have := HTt.out; have := ez.out; unfold wrap64; omega⟩⟩; have pl : (0 ≤ li) = True := eq_true (by have := eli.out; omega); have ql : (li < (S.size : Int)) = True := eq_true (by have := eli.out; have := HSz.out; omega); have hcl : w2_.cell? ⟨g, li.toNat, none⟩ = some (.int .u8 (ga (padRaw (nb t)) li.toNat)) := (cell_of_row w2_ g _ cs _ _ HBK.out).trans (HCE.out _ (by have := eli.out; have := HSz.out; omega)); have hfz : w2_.frozen? ⟨g, li.toNat, none⟩ = false := (by have h1_ := HBK.out; have h2_ := HSC.out; have h3_ := eli.out; have h4_ := HSz.out; unfold World.frozen?; dsimp only; rw [h1_]; dsimp only; rw [decide_eq_false (by omega)]; rfl)) | ((with_reducible refine gate_dst (N := 24) rfl ?_); refine conv2_event ?hg (N := 24) ?hd (src := 22) (dst := 9) (e := 5) rfl (g := g) (n := S.size) (c := c) ?hx Tryz.underlying22 Tryz.underlying5 Tryz.underlying9 (padL (nb t)) ?hlen ?hcell ?_; (case hg => rfl); (case hd => rfl); (case hx => rfl); (case hlen => rw [padL_len, ← HSn.out, nb_len]); (case hcell => intro i hi; refine (cell_of_row _ g i _ _ _ (blkf_set HBK.out li.toNat _)).trans ?_; rw [show li.toNat = S.size - 1 by have := eli.out; omega]; exact pad_cells (by rw [← HSn.out, nb_len]) (by omega) HSC.out HCE.out i hi)))
  go_ret
  exact ⟨rfl, (by repeat (first | exact HB.out | apply Below.drew | apply pw_below_drewN | refine Below.setCell ?_ GEs.out _))⟩
end Go.Proofs.YtkdmplfldfagnaaGreatDoor.Kp
end
section
namespace Go.Proofs.YtkdmplfldfagnaaGreatDoor.Kp
open Go.RowKit Go.Proofs.YtkdmplfldfagnaaGreatDoorW.PrintWords Go.Proofs.YtkdmplfldfagnaaGreatDoorW.PrintLast Go.Proofs.YtkdmplfldfagnaaGreatDoorW.PrintMore
attribute [local go_sem] max2_int min2_int max_two min_two max_three min_three max_four min_four   -- for this text's walks alone
set_option linter.unusedVariables false
set_option linter.unusedSimpArgs false
def impl_wordAt.l0 : Nat → ByteArray → Int → Int → Int → Option (Int)
 | 0, _, _, _, _ => none
 | k + 1, x0, x1, x5, x6 => if x6 ≥ 0 then (if 0 ≤ (wrap64 (x1 + x6)) then (if (wrap64 (x1 + x6)) < (x0.size : Int) then (impl_wordAt.l0 k x0 x1 (Go.bits .or .u64 (IntKind.u64.wrap (x5 * 256)) (IntKind.u64.wrap (bt x0 (wrap64 (x1 + x6))))) (wrap64 (x6 - 1))) else (none)) else (none)) else (some x5)
def impl_wordAt.f (k : Nat) (a0 : ByteArray) (a1 : Int) : Option (Int) := impl_wordAt.l0 k a0 a1 0 7
set_option maxHeartbeats 8000000 in
set_option maxRecDepth 100000 in
theorem impl_wordAt.calls (k : Nat) (a0 : ByteArray) (a1 : Int) (r : Int) (w : World) (h : impl_wordAt.f k a0 a1 = some r) :
  Calls Tryz.prog 94 #[.string a0, .int .i64 a1] w fun e w' => e = .returned (.int .u64 r) ∧ Drawn0 w w' := by
 have H : (impl_wordAt.l0 k a0 a1 0 7) = some r := h
 clear h
 have H' := Aside0.mk H
 clear H
 go_enter Tryz.func94, Tryz.ntmps94
 go_wp2
 go_loopg [5, 6] k (fun kq v5 v6 w' => ∃ (x5_1 : Int) (x6_1 : Int), v5 = .int .u64 x5_1 ∧ v6 = .int .i64 x6_1 ∧ Aside0 (impl_wordAt.l0 kq a0 a1 x5_1 x6_1 = some r) ∧ Aside0 (kq ≤ k) ∧ Drawn0 w w')
 case atStart => exact ⟨(0), (7), rS, rS, H', ⟨Nat.le_refl _⟩, by repeat (first | exact Drawn0.refl _ | apply Drawn0.step)⟩
 case round =>
  clear H'
  try clear p2
  obtain ⟨x5_1, x6_1, rfl, rfl, HA, HK1, ⟨m1, rfl⟩⟩ := hrel
  cases gk with
  | zero => exact absurd HA.out (by simp [impl_wordAt.l0])
  | succ k1 =>
   have H := HA.out
   clear HA
   simp only [impl_wordAt.l0] at H
   by_cases c3 : x6_1 ≥ 0
   ·rw [if_pos c3] at H
    have c3b0 : decide (0 ≤ x6_1) = true := decide_eq_true c3
    clear c3
    obtain ⟨ji4, hji4⟩ : ∃ j_ : Int, (wrap64 (a1 + x6_1)) = j_ := ⟨_, rfl⟩
    replace H : (if 0 ≤ (ji4) then (if (ji4) < (a0.size : Int) then (impl_wordAt.l0 k1 a0 a1 (Go.bits .or .u64 (IntKind.u64.wrap (x5_1 * 256)) (IntKind.u64.wrap (bt a0 (ji4)))) (wrap64 (x6_1 - 1))) else (none)) else (none)) = some r := by first | (rw [hji4] at H; exact H) | (simp only [hji4] at H ⊢; exact H)
    have hji4w : (IntKind.i64.wrap (a1 + x6_1)) = ji4 := (i64_w _).trans hji4
    by_cases c5 : 0 ≤ (ji4)
    ·rw [if_pos c5] at H
     have c5b0 : decide (0 ≤ (ji4)) = true := decide_eq_true c5
     clear c5
     by_cases c6 : (ji4) < (a0.size : Int)
     ·rw [if_pos c6] at H
      have c6b0 : decide ((ji4) < (a0.size : Int)) = true := decide_eq_true c6
      clear c6
      have H' := Aside0.mk H
      clear H
      have p7 : 0 ≤ ((ji4) : Int) := of_decide_eq_true (by first | (with_reducible assumption) | assumption)
      have q7 : (ji4) < (a0.size : Int) := of_decide_eq_true (by first | (with_reducible assumption) | assumption)
      have hx7 := bt_at a0 (ji4)
      replace p7 := eq_true p7
      replace q7 := eq_true q7
      go_wp2
      go_roundg k1
      case measure => have := HK1.out; omega
      case rel => exact ⟨(Go.bits .or .u64 (IntKind.u64.wrap (x5_1 * 256)) (IntKind.u64.wrap (bt a0 (ji4)))), (wrap64 (x6_1 - 1)), (by first | rfl | (simp; done) | (simp only [← hji4] <;> (first | rfl | simp)) | (simp [*]; done)), rS, H', ⟨by have := HK1.out; omega⟩, by repeat (first | exact Drawn0.refl _ | apply Drawn0.step)⟩
     ·rw [if_neg c6] at H
      exact absurd H (by simp)
    ·rw [if_neg c5] at H
     exact absurd H (by simp)
   ·rw [if_neg c3] at H
    have c3b0 : decide (0 ≤ x6_1) = false := decide_eq_false c3
    clear c3
    obtain rfl := Option.some.inj H
    go_wp2
    go_ret
    exact ⟨rS, rD⟩
end Go.Proofs.YtkdmplfldfagnaaGreatDoor.Kp
end
section
namespace Go.Proofs.YtkdmplfldfagnaaGreatDoor.Kp
open Go.RowKit Go.Proofs.YtkdmplfldfagnaaGreatDoorW.PrintWords Go.Proofs.YtkdmplfldfagnaaGreatDoorW.PrintLast Go.Proofs.YtkdmplfldfagnaaGreatDoorW.PrintMore
set_option linter.unusedVariables false
set_option linter.unusedSimpArgs false
theorem wordAt_some (p : ByteArray) (a : Nat) (h : a + 8 ≤ p.size) (hp : p.size ≤ 281474976710656) (d : Nat) : ∀ (k : Nat) (x i : Int), d ≤ 8 → i = (d : Int) - 1 → d < k → ∃ v, impl_wordAt.l0 k p (a : Int) x i = some v := by
  induction d with
  | zero =>
    intro k x i hd hi hk
    obtain ⟨k, rfl⟩ : ∃ j, k = j + 1 := ⟨k - 1, by omega⟩
    simp only [impl_wordAt.l0]
    rw [if_neg (by omega)]
    exact ⟨_, rfl⟩
  | succ d ih =>
    intro k x i hd hi hk
    obtain ⟨k, rfl⟩ : ∃ j, k = j + 1 := ⟨k - 1, by omega⟩
    simp only [impl_wordAt.l0]
    have e1 : wrap64 ((a : Int) + i) = a + d := by unfold wrap64; omega
    have e2 : wrap64 (i - 1) = (d : Int) - 1 := by unfold wrap64; omega
    rw [if_pos (by omega), e1, if_pos (by omega), if_pos (by omega), e2]
    exact ih k _ _ (by omega) rfl (by omega)
def wv (p : ByteArray) (a : Nat) : Int := (impl_wordAt.f 9 p (a : Int)).getD 0
theorem wordAt_f (p : ByteArray) (a : Nat) (h : a + 8 ≤ p.size) (hp : p.size ≤ 281474976710656) : impl_wordAt.f 9 p (a : Int) = some (wv p a) := by
  obtain ⟨v, hv⟩ := wordAt_some p a h hp 8 9 0 7 (by omega) (by omega) (by omega)
  have hv' : impl_wordAt.f 9 p (a : Int) = some v := hv
  unfold wv
  rw [hv']
  rfl
def xst (s : List Int) (p : ByteArray) (a : Nat) : Nat → List Int
  | 0 => s
  | k + 1 => (xst s p a k).set k (xr (ga (xst s p a k) k) (wv p (a + 8 * k)))
theorem xst_len (s : List Int) (p : ByteArray) (a k : Nat) : (xst s p a k).length = s.length := by
  induction k with
  | zero => rfl
  | succ k ih => simp [xst, ih]
def abst (p : ByteArray) : Nat → List Int
  | 0 => List.replicate 25 0
  | j + 1 => rit (xst (abst p j) p (136 * j) 17) 24
theorem abst_len (p : ByteArray) (j : Nat) : (abst p j).length = 25 := by
  cases j with
  | zero => rfl
  | succ j => simp only [abst, rit_len, xst_len]; induction j with
    | zero => rfl
    | succ j ih => simp only [abst, rit_len, xst_len]; exact ih
theorem strOf_size (xs : List Int) : (strOfNums xs).size = xs.length := by
  unfold strOfNums
  show (xs.map _).toArray.size = _
  rw [List.size_toArray, List.length_map]
def padT (t : ByteArray) : ByteArray := strOfNums (padL (nb t))
theorem padT_size (t : ByteArray) : (padT t).size = 136 * (t.size / 136 + 1) := by
  unfold padT
  rw [strOf_size, padL_len]
  unfold padRaw
  rw [List.length_append, List.length_append, List.length_replicate, nb_len]
  show t.size + 1 + _ = _
  omega
def digI (t : ByteArray) : ByteArray := (strOfNums (txl (abst (padT t) (t.size / 136 + 1)) 25)).extract 0 32
def impl_Digest.f (a0 : ByteArray) : Option ByteArray := if a0.size ≤ 140737488351232 then some (digI a0) else none
theorem tx_size (s : List Int) : (strOfNums (txl s 25)).size = 200 := by
  rw [strOf_size, txl_len]
def impl_Digest.T9 : Bool × List (List Nat × List Nat) := (true, [([], []), ([0], [0]), ([1], [1]), ([], []), ([], []), ([], []), ([5], [5]), ([4, 6], [4, 6]), ([3, 7], [3, 7]), ([2, 8], [2, 8]), ([0, 0, 1, 2, 3, 4, 5, 6, 7, 8, 9], [0]), ([10, 9, 8, 0, 1, 2, 3, 4, 5, 6, 7, 8, 9], [9, 10])])
def impl_Digest.B9 : List Nat := [0, 1, 3, 0, 0, 0, 32, 112, 248, 511, 1023, 2047]
theorem impl_Digest.tab9 : rtab .any (opsOf Tryz.f55 9) = impl_Digest.T9 := by kernel_rfl
theorem impl_Digest.bits9 : waitsOk impl_Digest.T9.2 impl_Digest.B9 = true := by kernel_rfl
set_option maxHeartbeats 8000000 in
set_option maxRecDepth 100000 in
theorem impl_Digest.calls (t : ByteArray) (r : ByteArray) (w : World) (hT : Tab w) (h : impl_Digest.f t = some r) :
    Calls Tryz.prog 55 #[.string t] w fun e w' => e = .returned (.string r) ∧ Below w.heap.size w w' := by
  unfold impl_Digest.f at h
  by_cases ht : t.size ≤ 140737488351232
  case neg => rw [if_neg ht] at h; exact absurd h (by simp)
  rw [if_pos ht] at h
  obtain rfl := Option.some.inj h
  clear h
  have HT := Aside0.mk hT
  have HTt := Aside0.mk ht
  have HB := Aside0.mk (Below.refl w.heap.size w)
  clear hT ht
  obtain ⟨pd, hpd⟩ : ∃ p_, p_ = padT t := ⟨_, rfl⟩
  have HPD := Aside0.mk hpd
  have HPS := Aside0.mk (show pd.size = 136 * (t.size / 136 + 1) by rw [hpd]; exact padT_size t)
  clear hpd
  go_enter Tryz.func55, Tryz.ntmps55
  go_wp2_with (first | (go_at_call 93; (with_reducible refine (impl_KeccakPad.calls t HTt.out _).mono ?_); rintro e w1_ ⟨rfl, hb⟩; have n0_ := Aside0.mk (below_then (by repeat (first | exact HB.out | apply Below.drew | apply pw_below_drewN)) (Below.size (by repeat (first | exact HB.out | apply Below.drew | apply pw_below_drewN))) hb); clear HB; have HB := n0_; clear n0_ hb; rw [show strOfNums (padL (nb t)) = pd from HPD.out.symm]) | ((with_reducible refine gate_dst (N := 4) rfl ?_); refine box_event ?hg (N := 4) ?hd (cs := ue (List.replicate 25 0)) (t := 95) ?hr ?_; (case hd => rfl); (case hg => rfl); (case hr => first | (go_simp; done) | (go_simp; rfl)); intro g hg w2_ hbox hb; have n0_ := Aside0.mk (below_then (by repeat (first | exact HB.out | apply Below.drew | apply pw_below_drewN)) (Below.size (by repeat (first | exact HB.out | apply Below.drew | apply pw_below_drewN))) hb); have GEs := Aside0.mk (show w.heap.size ≤ g by rw [hg]; exact Below.size (by repeat (first | exact HB.out | apply Below.drew | apply pw_below_drewN))); clear HB; have HB := n0_; have BKs := Aside0.mk hbox; clear n0_ hb hbox hg))
  go_loopg [5] (t.size / 136 + 2) (fun kq v5 w' => ∃ (j : Nat) (x : Int), v5 = .int .i64 x ∧ Aside0 (x = ((136 * j : Nat) : Int) ∧ j + kq = t.size / 136 + 2 ∧ j ≤ t.size / 136 + 1) ∧ Aside0 (w'.heap[g]? = some (.cells (ue (abst pd j)) 95 (0, 0))) ∧ Aside0 (Below w.heap.size w w'))
  case atStart => exact ⟨0, 0, rfl, ⟨rfl, by omega, by omega⟩, ⟨by (with_reducible repeat (first | refine blk_drewN ?_ _ | refine blk_drew ?_)); exact BKs.out⟩, ⟨(by repeat (first | exact HB.out | apply Below.drew | apply pw_below_drewN | refine Below.setCell ?_ GEs.out _))⟩⟩
  case round =>
    clear BKs HB
    obtain ⟨J, at_, rfl, HK1, BKs, HB⟩ := hrel
    cases gk with
    | zero => exact absurd HK1.out (by omega)
    | succ k1 =>
      by_cases c : J < t.size / 136 + 1
      · have c0 : decide (at_ < (pd.size : Int)) = true := decide_eq_true (by have := HK1.out; have := HPS.out; omega)
        have HC1 := Aside0.mk c
        clear c
        go_wp2
        go_loopg [15] 18 (fun kq v15 w' => ∃ (k : Nat) (x : Int), v15 = .int .i64 x ∧ Aside0 (x = (k : Int) ∧ k + kq = 18 ∧ k ≤ 17) ∧ Aside0 (w'.heap[g]? = some (.cells (ue (xst (abst pd J) pd (136 * J) k)) 95 (0, 0))) ∧ Aside0 (Below w.heap.size w w'))
        case atStart => exact ⟨0, 0, rfl, ⟨rfl, rfl, by decide⟩, ⟨by (with_reducible repeat (first | refine blk_drewN ?_ _ | refine blk_drew ?_)); exact BKs.out⟩, ⟨(by repeat (first | exact HB.out | apply Below.drew | apply pw_below_drewN | refine Below.setCell ?_ GEs.out _))⟩⟩
        case round =>
          clear BKs HB c0
          obtain ⟨K2, x, rfl, HK2, BKs, HB⟩ := hrel
          cases gk with
          | zero => exact absurd HK2.out (by omega)
          | succ k2 =>
            by_cases c : K2 < 17
            · have c0 : decide (x < 17) = true := decide_eq_true (by have := HK2.out; omega)
              have HC2 := Aside0.mk c
              clear c
              obtain ⟨a1, ha1, ea1⟩ : ∃ y_, wrap64 (8 * x) = y_ ∧ Aside0 (y_ = ((8 * K2 : Nat) : Int)) := ⟨_, rfl, ⟨by have := HK1.out; have := HC1.out; have := HK2.out; have := HC2.out; have := HPS.out; have := HTt.out; first | (unfold wrap64; omega) | (rw [Int.tmod_eq_emod_of_nonneg (by omega)]; omega)⟩⟩
              obtain ⟨a2, ha2, ea2⟩ : ∃ a2 : Nat, wrap64 (at_ + a1) = (a2 : Int) ∧ Aside0 (a2 = 136 * J + 8 * K2) := ⟨136 * J + 8 * K2, by have := HK1.out; have := HC1.out; have := HK2.out; have := HC2.out; have := HPS.out; have := HTt.out; have := ea1.out; unfold wrap64; omega, ⟨rfl⟩⟩
              have px : (0 ≤ x) = True := eq_true (by have := HK1.out; have := HC1.out; have := HK2.out; have := HC2.out; have := HPS.out; have := HTt.out; have := ea1.out; have := ea2.out; omega)
              have qx_25 : (x < 25) = True := eq_true (by have := HK1.out; have := HC1.out; have := HK2.out; have := HC2.out; have := HPS.out; have := HTt.out; have := ea1.out; have := ea2.out; omega)
              have hc0 : wr.cell? ⟨g, x.toNat, none⟩ = some (.int .u64 (ga (xst (abst pd J) pd (136 * J) K2) x.toNat)) := (blk_cell BKs.out _).trans (ue_get (by rw [xst_len, abst_len]; have := HK1.out; have := HC1.out; have := HK2.out; have := HC2.out; have := HPS.out; have := HTt.out; have := ea1.out; have := ea2.out; omega))
              have hfz : wr.frozen? ⟨g, x.toNat, none⟩ = false := blk_frozen BKs.out _
              have HW := Aside0.mk (wordAt_f pd a2 (by have := HK1.out; have := HC1.out; have := HK2.out; have := HC2.out; have := HPS.out; have := HTt.out; have := ea1.out; have := ea2.out; omega) (by have := HK1.out; have := HC1.out; have := HK2.out; have := HC2.out; have := HPS.out; have := HTt.out; have := ea1.out; have := ea2.out; omega))
              go_wp2
              refine start_ (n := 12) (S := fun w' => w'.cell? ⟨g, x.toNat, none⟩ = some (.int .u64 (ga (xst (abst pd J) pd (136 * J) K2) x.toNat))) (ds := [11]) #[false, false, false, false, false, false, false, false, false, false, false, false] (by kernel_rfl) rfl rfl (hc0) (fun hHeld => ?_)
              refine with_tabW impl_Digest.tab9 impl_Digest.bits9 (fun HT_ HW_ => ?_)
              refine pI 0 (some 18) HT_.out ?_
              refine pI 1 (some 19) HT_.out ?_
              refine pI 3 (some 21) HT_.out ?_
              refine pI 4 (some 22) HT_.out ?_
              refine pI 5 (some 23) HT_.out ?_
              refine pI 6 (some 24) HT_.out ?_
              refine pI 7 (some 25) HT_.out ?_
              refine tI1 2 (some 20) HT_.out HW_.out hHeld ?_
              refine oI 8 (some 26) HT_.out (fun K hK => ?_)
              refine goes_ Tryz.func94 (by kernel_rfl) rfl #[.string pd, .int .i64 (wrap64 (at_ + a1))] (by rfl) rfl rfl (by simp only [List.map_toArray, List.map_cons, List.map_nil]; rfl) ?_
              rw [ha2]
              with_reducible refine (impl_wordAt.calls 9 _ _ _ _ HW.out).mono ?_
              rintro e w3_ ⟨rfl, ⟨nd, rfl⟩⟩
              refine ⟨_, rfl, ?_⟩
              refine hK.out _ _ ((by exact hHeld)) (fun hHeld => ?_)
              clear hK K
              refine nO (some 26) ?_
              refine pI 9 (some 27) HT_.out ?_
              refine pI 10 (some 28) HT_.out ?_
              refine last_ (i := 11) (N := none) #[true, true, true, true, true, true, true, true, true, true, true, true] rfl rfl (one_of HT_.out (by kernel_rfl)) (by decide) (fun K hK => ?_)
              refine skip_ (w1 := ?_) (by rfl) rfl ?_ ?_
              rotate_left
              · go_simp
                rfl
              refine hK.out _ _ ?_
              clear hK K
              refine done_ (done_of HT_.out (by kernel_rfl)) ?_
              go_wp2
              go_roundg k2
              case measure => omega
              case rel => exact ⟨K2 + 1, _, rfl, ⟨by have := HK1.out; have := HC1.out; have := HK2.out; have := HC2.out; have := HPS.out; have := HTt.out; have := ea1.out; have := ea2.out; first | omega | (unfold wrap64; omega), by have := HK1.out; have := HC1.out; have := HK2.out; have := HC2.out; have := HPS.out; have := HTt.out; have := ea1.out; have := ea2.out; omega, by have := HK1.out; have := HC1.out; have := HK2.out; have := HC2.out; have := HPS.out; have := HTt.out; have := ea1.out; have := ea2.out; omega⟩, ⟨by (with_reducible repeat (first | refine blk_drewN ?_ _ | refine blk_drew ?_)); refine blk_put (cs := ue (xst (abst pd J) pd (136 * J) K2)) (by (with_reducible repeat (first | refine blk_drewN ?_ _ | refine blk_drew ?_)); exact BKs.out) x.toNat _ ?_; rw [ue_set]; simp only [xst]; rw [show x.toNat = K2 by have := HK1.out; have := HC1.out; have := HK2.out; have := HC2.out; have := HPS.out; have := HTt.out; have := ea1.out; have := ea2.out; omega, show a2 = 136 * J + 8 * K2 by have := HK1.out; have := HC1.out; have := HK2.out; have := HC2.out; have := HPS.out; have := HTt.out; have := ea1.out; have := ea2.out; omega]⟩, ⟨(by repeat (first | exact HB.out | apply Below.drew | apply pw_below_drewN | refine Below.setCell ?_ GEs.out _))⟩⟩
            · have c0 : decide (x < 17) = false := decide_eq_false (by have := HK2.out; omega)
              obtain rfl : K2 = 17 := by have := HK2.out; omega
              clear c HK2
              go_wp2_with (first | (go_at_call 95; (with_reducible refine (impl_rounds.calls g (xst (abst pd J) pd (136 * J) 17) (by rw [xst_len, abst_len]) w _ HT.out ?side1 GEs.out ?side2).mono ?_); (case side1 => exact (by repeat (first | exact HB.out | apply Below.drew | apply pw_below_drewN | refine Below.setCell ?_ GEs.out _))); (case side2 => ((with_reducible repeat (first | refine blk_drewN ?_ _ | refine blk_drew ?_)); exact BKs.out)); rintro e w4_ ⟨rfl, hk, hb⟩; have n0_ := Aside0.mk hk; have n1_ := Aside0.mk hb; clear BKs HB; have BKs := n0_; have HB := n1_; clear n0_ n1_ hk hb))
              go_roundg k1
              case measure => omega
              case rel => exact ⟨J + 1, _, rfl, ⟨by have := HK1.out; have := HC1.out; have := HPS.out; have := HTt.out; unfold wrap64; omega, by have := HK1.out; have := HC1.out; have := HPS.out; have := HTt.out; omega, by have := HK1.out; have := HC1.out; have := HPS.out; have := HTt.out; omega⟩, ⟨by (with_reducible repeat (first | refine blk_drewN ?_ _ | refine blk_drew ?_)); exact BKs.out⟩, ⟨(by repeat (first | exact HB.out | apply Below.drew | apply pw_below_drewN | refine Below.setCell ?_ GEs.out _))⟩⟩
      · have c0 : decide (at_ < (pd.size : Int)) = false := decide_eq_false (by have := HK1.out; have := HPS.out; omega)
        obtain rfl : J = t.size / 136 + 1 := by have := HK1.out; omega
        clear c
        have HX := Aside0.mk (tx_size (abst pd (t.size / 136 + 1)))
        obtain ⟨tx, htx⟩ : ∃ y_, y_ = strOfNums (txl (abst pd (t.size / 136 + 1)) 25) := ⟨_, rfl⟩
        rw [← htx] at HX
        have HXe := Aside0.mk htx
        clear htx
        have h32 : ((32 : Int) ≤ (tx.size : Int)) = True := eq_true (by have := HX.out; omega)
        go_wp2_with (first | (go_at_call 96; (with_reducible refine (impl_text.calls g (abst pd (t.size / 136 + 1)) (abst_len _ _) _ ?side1).mono ?_); (case side1 => ((with_reducible repeat (first | refine blk_drewN ?_ _ | refine blk_drew ?_)); exact BKs.out)); rintro e w4_ ⟨rfl, hb⟩; have n0_ := Aside0.mk (below_then (by repeat (first | exact HB.out | apply Below.drew | apply pw_below_drewN | refine Below.setCell ?_ GEs.out _)) (Below.size (by repeat (first | exact HB.out | apply Below.drew | apply pw_below_drewN | refine Below.setCell ?_ GEs.out _))) hb); clear BKs HB; have HB := n0_; clear n0_ hb; rw [← HXe.out]))
        go_ret
        exact ⟨by unfold digI; rw [← HPD.out, ← HXe.out]; first | done | rfl, (by repeat (first | exact HB.out | apply Below.drew | apply pw_below_drewN | refine Below.setCell ?_ GEs.out _))⟩
theorem ue_one (xs : List Int) : (ue xs).all (·.oneCell') = true := by
  unfold ue
  rw [Array.all_eq_true_iff_forall_mem]
  intro v hv
  obtain ⟨x, _, rfl⟩ := List.mem_map.1 (List.mem_toArray.1 hv)
  rfl
section
variable {P : Program} {ops : Array Oper} {rest : List Oper} {o : Oper} {a : Act} {w : World} {Q : Exit → Act → World → Prop}
theorem wpList_buildA (hg : o.guard = none) (t : TypeId) (parts : Array (Nat × Operand)) (ho : o.op = .build t parts) {cs : Array Value} (hb : P.built t (parts.map fun (i, x) => (i, a.eval x)).toList = some cs)
    (h : wpList P ops Q rest (a.put o.dst (.agg cs)) w) : wpList P ops Q (o :: rest) a w := by
  refine wpList_build hg t parts ho (by rw [hb]; rfl) ?_
  rw [hb]
  exact h
end
theorem built_l03Offsets : Tryz.prog.built 117 [(0, .int .u64 0), (1, .int .u64 1), (2, .int .u64 62), (3, .int .u64 28), (4, .int .u64 27), (5, .int .u64 36), (6, .int .u64 44), (7, .int .u64 6), (8, .int .u64 55), (9, .int .u64 20), (10, .int .u64 3), (11, .int .u64 10), (12, .int .u64 43), (13, .int .u64 25), (14, .int .u64 39), (15, .int .u64 41), (16, .int .u64 45), (17, .int .u64 15), (18, .int .u64 21), (19, .int .u64 8), (20, .int .u64 18), (21, .int .u64 2), (22, .int .u64 61), (23, .int .u64 56), (24, .int .u64 14)] = some (ue turnsL) := by kernel_rfl
set_option maxHeartbeats 4000000 in
set_option maxRecDepth 100000 in
theorem spec_l03Offsets.calls (w : World) : Calls Tryz.prog 137 #[] w fun e w' => e = .returned (.agg (ue turnsL)) ∧ Below w.heap.size w w' := by
  have HB := Aside0.mk (Below.refl w.heap.size w)
  go_enter Tryz.func137, Tryz.ntmps137
  go_wp2_with (first | ((with_reducible refine gate_dst (N := 0) rfl ?_); refine box_event ?hg (N := 0) ?hd (cs := ue (List.replicate 25 0)) (t := 117) ?hr ?_; (case hd => rfl); (case hg => rfl); (case hr => first | (go_simp; done) | (go_simp; rfl)); intro g hg w2_ hbox hb; have n0_ := Aside0.mk (below_then HB.out (Below.size HB.out) hb); have GEs := Aside0.mk (show w.heap.size ≤ g by rw [hg]; exact Nat.le_refl _); clear HB; have HB := n0_; have BKs := Aside0.mk hbox; clear n0_ hb hbox hg) | ((with_reducible refine gate_dst (N := 1) rfl ?_); refine wpList_buildA rfl 117 _ rfl (cs := ue turnsL) ?hb ?_; (case hb => exact built_l03Offsets)) | ((with_reducible refine gate_store (t := 117) (p := 0) rfl ?_); refine wpList_store_row rfl 117 _ _ rfl g (ue turnsL) rfl rfl 117 (ue (List.replicate 25 0)) BKs.out (by kernel_rfl) rfl (ue_one _) ?_; have n0_ := Aside0.mk (below_setRow HB.out GEs.out (ue turnsL)); have n1_ := Aside0.mk (setRow_heap _ g _ (ue turnsL) _ _ BKs.out); clear HB BKs; have HB := n0_; have BKs := n1_; clear n0_ n1_))
  refine bodyPost_ret (results_cell_row rfl _ _ g 117 (ue turnsL) (0, 0) _ rfl (by (with_reducible repeat (first | refine blk_drewN ?_ _ | refine blk_drew ?_)); exact BKs.out) Tryz.underlying117 rfl (by kernel_rfl)) rfl ?_
  exact ⟨rfl, (by repeat (first | exact HB.out | apply Below.drew | apply pw_below_drewN | refine Below.setCell ?_ GEs.out _))⟩
theorem built_l03Rounds : Tryz.prog.built 119 [(0, .int .u64 1), (1, .int .u64 32898), (2, .int .u64 9223372036854808714), (3, .int .u64 9223372039002292224), (4, .int .u64 32907), (5, .int .u64 2147483649), (6, .int .u64 9223372039002292353), (7, .int .u64 9223372036854808585), (8, .int .u64 138), (9, .int .u64 136), (10, .int .u64 2147516425), (11, .int .u64 2147483658), (12, .int .u64 2147516555), (13, .int .u64 9223372036854775947), (14, .int .u64 9223372036854808713), (15, .int .u64 9223372036854808579), (16, .int .u64 9223372036854808578), (17, .int .u64 9223372036854775936), (18, .int .u64 32778), (19, .int .u64 9223372039002259466), (20, .int .u64 9223372039002292353), (21, .int .u64 9223372036854808704), (22, .int .u64 2147483649), (23, .int .u64 9223372039002292232)] = some (ue rcL) := by kernel_rfl
set_option maxHeartbeats 4000000 in
set_option maxRecDepth 100000 in
theorem spec_l03Rounds.calls (w : World) : Calls Tryz.prog 138 #[] w fun e w' => e = .returned (.agg (ue rcL)) ∧ Below w.heap.size w w' := by
  have HB := Aside0.mk (Below.refl w.heap.size w)
  go_enter Tryz.func138, Tryz.ntmps138
  go_wp2_with (first | ((with_reducible refine gate_dst (N := 0) rfl ?_); refine box_event ?hg (N := 0) ?hd (cs := ue (List.replicate 24 0)) (t := 119) ?hr ?_; (case hd => rfl); (case hg => rfl); (case hr => first | (go_simp; done) | (go_simp; rfl)); intro g hg w2_ hbox hb; have n0_ := Aside0.mk (below_then HB.out (Below.size HB.out) hb); have GEs := Aside0.mk (show w.heap.size ≤ g by rw [hg]; exact Nat.le_refl _); clear HB; have HB := n0_; have BKs := Aside0.mk hbox; clear n0_ hb hbox hg) | ((with_reducible refine gate_dst (N := 1) rfl ?_); refine wpList_buildA rfl 119 _ rfl (cs := ue rcL) ?hb ?_; (case hb => exact built_l03Rounds)) | ((with_reducible refine gate_store (t := 119) (p := 0) rfl ?_); refine wpList_store_row rfl 119 _ _ rfl g (ue rcL) rfl rfl 119 (ue (List.replicate 24 0)) BKs.out (by kernel_rfl) rfl (ue_one _) ?_; have n0_ := Aside0.mk (below_setRow HB.out GEs.out (ue rcL)); have n1_ := Aside0.mk (setRow_heap _ g _ (ue rcL) _ _ BKs.out); clear HB BKs; have HB := n0_; have BKs := n1_; clear n0_ n1_))
  refine bodyPost_ret (results_cell_row rfl _ _ g 119 (ue rcL) (0, 0) _ rfl (by (with_reducible repeat (first | refine blk_drewN ?_ _ | refine blk_drew ?_)); exact BKs.out) Tryz.underlying119 rfl (by kernel_rfl)) rfl ?_
  exact ⟨rfl, (by repeat (first | exact HB.out | apply Below.drew | apply pw_below_drewN | refine Below.setCell ?_ GEs.out _))⟩
end Go.Proofs.YtkdmplfldfagnaaGreatDoor.Kp
end
section
namespace Go.Proofs.YtkdmplfldfagnaaGreatDoor.Kp
open Go.RowKit Go.Proofs.YtkdmplfldfagnaaGreatDoorW.PrintWords Go.Proofs.YtkdmplfldfagnaaGreatDoorW.PrintLast Go.Proofs.YtkdmplfldfagnaaGreatDoorW.PrintMore
attribute [local go_sem] max2_int min2_int max_two min_two max_three min_three max_four min_four   -- for this text's walks alone
set_option linter.unusedVariables false
set_option linter.unusedSimpArgs false
def spec_l03Turn.f (a0 : Int) (a1 : Int) : Option (Int) := if 0 ≤ a1 then (if 0 ≤ (IntKind.u64.wrap (64 - a1)) then (some (Go.bits .or .u64 (shl .u64 a0 a1) (shr .u64 a0 (IntKind.u64.wrap (64 - a1))))) else (none)) else (none)
set_option maxHeartbeats 8000000 in
set_option maxRecDepth 100000 in
theorem spec_l03Turn.calls (a0 : Int) (a1 : Int) (r : Int) (w : World) (h : spec_l03Turn.f a0 a1 = some r) :
  Calls Tryz.prog 155 #[.int .u64 a0, .int .u64 a1] w fun e w' => e = .returned (.int .u64 r) ∧ Drawn0 w w' := by
 have H : (if 0 ≤ a1 then (if 0 ≤ (IntKind.u64.wrap (64 - a1)) then (some (Go.bits .or .u64 (shl .u64 a0 a1) (shr .u64 a0 (IntKind.u64.wrap (64 - a1))))) else (none)) else (none)) = some r := h
 clear h
 by_cases c3 : 0 ≤ a1
 ·rw [if_pos c3] at H
  have c3b0 := eq_true c3
  have c3b1 : decide (0 ≤ a1) = true := decide_eq_true c3
  clear c3
  obtain ⟨ji4, hji4⟩ : ∃ j_ : Int, (shl .u64 a0 a1) = j_ := ⟨_, rfl⟩
  replace H : (if 0 ≤ (IntKind.u64.wrap (64 - a1)) then (some (Go.bits .or .u64 (ji4) (shr .u64 a0 (IntKind.u64.wrap (64 - a1))))) else (none)) = some r := by first | (rw [hji4] at H; exact H) | (simp only [hji4] at H ⊢; exact H)
  have hji4_ : (IntKind.u64.wrap (a0 * 2 ^ min a1.toNat 64)) = ji4 := hji4
  have hji4z : a1 ≤ 64 → (IntKind.u64.wrap (a0 * 2 ^ a1.toNat)) = ji4 := shl_small hji4
  obtain ⟨ji5, hji5⟩ : ∃ j_ : Int, (IntKind.u64.wrap (64 - a1)) = j_ := ⟨_, rfl⟩
  replace H : (if 0 ≤ (ji5) then (some (Go.bits .or .u64 (ji4) (shr .u64 a0 (ji5)))) else (none)) = some r := by first | (rw [hji5] at H; exact H) | (simp only [hji5] at H ⊢; exact H)
  by_cases c6 : 0 ≤ (ji5)
  ·rw [if_pos c6] at H
   have c6b0 := eq_true c6
   have c6b1 : decide (0 ≤ (ji5)) = true := decide_eq_true c6
   clear c6
   obtain ⟨ji7, hji7⟩ : ∃ j_ : Int, (shr .u64 a0 (ji5)) = j_ := ⟨_, rfl⟩
   replace H : (some (Go.bits .or .u64 (ji4) (ji7))) = some r := by first | (rw [hji7] at H; exact H) | (simp only [hji7] at H ⊢; exact H)
   have hji7_ : (a0 / 2 ^ min (ji5).toNat 64) = ji7 := hji7
   have hji7z : (ji5) ≤ 64 → (a0 / 2 ^ (ji5).toNat) = ji7 := shr_small hji7
   obtain rfl := Option.some.inj H
   go_enter Tryz.func155, Tryz.ntmps155
   go_wp2
   go_ret
   exact ⟨by first | rfl | (simp; done) | (simp only [← hji4, ← hji5, ← hji7] <;> (first | rfl | simp)) | (simp [*]; done), by repeat (first | exact Drawn0.refl _ | apply Drawn0.step)⟩
  ·rw [if_neg c6] at H
   exact absurd H (by simp)
 ·rw [if_neg c3] at H
  exact absurd H (by simp)
end Go.Proofs.YtkdmplfldfagnaaGreatDoor.Kp
end
