/- What is proved here: part 1 of 4 of the proof of the given statement FnQaps: the contracts of the Go functions that it reaches, the plain facts on lists and numbers, and (in the last part) the statement itself. No conditions beyond the given ones. -/
import Derived.Test.YtcnejiflpioaiaaProg
import Derived.Below
import Derived.Deep.Draws
import Derived.Deep.AppendLies
import Derived.Maps.AppendAt
import Derived.OwnWalk
import Derived.Laws.BytesArg
import Derived.Laws.MakeOwn
import Derived.Laws.OwnMore
import Derived.Deep.OwnRows
import Derived.Tactics
import Derived.Lib.ConvBytes
import Derived.Laws.Slices
import Derived.WalkKit
import Derived.KernelRfl
import Derived.RowKit3
import Derived.Deep.LoopGhost
import Derived.Deep.QuietTactic
import Derived.BigQuiet
import Derived.WideLaws
import Derived.Deep.DeepCutAuto
import Derived.Deep.CutBlock
import Derived.Deep.RegionHeld3
import Derived.Laws.Rows
import Derived.Lib.AppendStr
import Derived.ArgAppend
import Derived.Laws.IdiomCopy
import Derived.OrdersHeld
import Derived.Laws.BitsLemmas
import Derived.RowKit
import Derived.Test.YtcnejiflpioaiaaMFnQapswWords
import Derived.Test.YtcnejiflpioaiaaMFnQapswLast
import Derived.Test.YtcnejiflpioaiaaMFnQapswTab
import Derived.Test.YtcnejiflpioaiaaMFnQapswFour
import Derived.Test.YtcnejiflpioaiaaMFnQapswQPut
import Derived.Test.YtcnejiflpioaiaaMFnQapswApart
import Derived.Test.YtcnejiflpioaiaaMFnQapswArr
import Derived.Test.YtcnejiflpioaiaaMFnQapswZeros
import Derived.Test.YtcnejiflpioaiaaMFnQapswFoot
import Derived.Test.YtcnejiflpioaiaaMFnQapswKept
import Derived.Test.YtcnejiflpioaiaaMFnQapswShare
import Derived.Test.YtcnejiflpioaiaaMFnQapswN
import Derived.Test.YtcnejiflpioaiaaMFnQapswFootNe
import Derived.Test.YtcnejiflpioaiaaMFnQapswAt
import Derived.Test.YtcnejiflpioaiaaMFnQapswEqStruct
import Derived.Test.YtcnejiflpioaiaaMFnQapswRepsOne
import Derived.Test.YtcnejiflpioaiaaMFnQapswInv
import Derived.Test.YtcnejiflpioaiaaMFnQapswInvWords
import Derived.Test.YtcnejiflpioaiaaMFnQapswGuard
import Derived.Test.YtcnejiflpioaiaaMFnQapswNEv
import Derived.Test.YtcnejiflpioaiaaMFnQapswMore
import Derived.Test.YtcnejiflpioaiaaMFnQapswSlim

section
namespace Go.Proofs.Ytcnejiflpioaiaa.Pf
open Go.RowKit Go.Proofs.YtcnejiflpioaiaaW.PrintWords Go.Proofs.YtcnejiflpioaiaaW.PrintLast Go.Proofs.YtcnejiflpioaiaaW.PrintMore
attribute [local go_sem] max2_int min2_int max_two min_two max_three min_three max_four min_four   -- for this text's walks alone
set_option linter.unusedVariables false
set_option linter.unusedSimpArgs false
def errW : Option Int → Value
  | none => .nilIface
  | some c => .iface 0 (.int .i64 c)
theorem errW_none : errW none = .nilIface := rfl
theorem errW_some (c : Int) : errW (some c) = .iface 0 (.int .i64 c) := rfl
theorem info3 : (Try.prog.info? 3).map (fun i => (i.zero, i.size, i.bytes)) = some (some (.int .i64 0), 1, 8) := by kernel_rfl
theorem info22 : (Try.prog.info? 22).map (fun i => (i.zero, i.size, i.bytes)) = some (some (.slice none 0 0), 1, 24) := by kernel_rfl
theorem info40 : (Try.prog.info? 40).map (fun i => (i.zero, i.size, i.bytes)) = some (some (.agg #[(.slice none 0 0), (.slice none 0 0), (.slice none 0 0)]), 3, 72) := by kernel_rfl
def rd_L2 (xs : List (List Int)) (i : Int) : (List Int) := xs.getD i.toNat ([] : List Int)
theorem at_L2 {w : World} {A : Option Addr} {n : Nat} {xs : List (List Int)} (h : Kd.C (Kd.slice 3 (Kd.int .i64)) w A n xs) (i : Int) (h0 : 0 ≤ i) (h1 : i < n) : ∃ ad A0 c0, A = some ad ∧ w.cell? (ad.add i.toNat) = some (.slice A0 (rd_L2 xs i).length c0) ∧ (rd_L2 xs i).length ≤ c0 ∧ (Kd.int .i64).C w A0 (rd_L2 xs i).length (rd_L2 xs i) := by
  obtain ⟨ad, c, e, _, hK, hc0⟩ := Kd.C_get h ([] : List Int) i h0 h1
  have hc : ∀ j u, c[j]? = some u → w.cell? (ad.add (i.toNat * 1 + j)) = some u := hc0
  obtain ⟨A0, c0, rfl, l0, g0⟩ := hK
  exact ⟨ad, A0, c0, e, by have hq := hc 0 _ rfl; rwa [Nat.mul_one, Nat.add_zero] at hq, l0, g0⟩
structure S40 where
  f0 : (List Int)
  f1 : (List Int)
  f2 : (List Int)
def z40 : S40 := ⟨([] : List Int), ([] : List Int), ([] : List Int)⟩
def k40 : Kd S40 := Kd.iso (Kd.pair (Kd.slice 3 (Kd.int .i64)) (Kd.pair (Kd.slice 3 (Kd.int .i64)) (Kd.slice 3 (Kd.int .i64)))) (fun x : S40 => (x.f0, x.f1, x.f2))
theorem k40_open {w : World} {x : S40} {cs : List Value} (h : k40.K w x cs) : ∃ A0 c0 A1 c1 A2 c2, cs = [.slice A0 x.f0.length c0, .slice A1 x.f1.length c1, .slice A2 x.f2.length c2] ∧ x.f0.length ≤ c0 ∧ (Kd.int .i64).C w A0 x.f0.length x.f0 ∧ x.f1.length ≤ c1 ∧ (Kd.int .i64).C w A1 x.f1.length x.f1 ∧ x.f2.length ≤ c2 ∧ (Kd.int .i64).C w A2 x.f2.length x.f2 := by
  obtain ⟨_, _, rfl, ⟨A0, c0, rfl, l0, g0⟩, ⟨_, _, rfl, ⟨A1, c1, rfl, l1, g1⟩, ⟨A2, c2, rfl, l2, g2⟩⟩⟩ := h
  exact ⟨A0, c0, A1, c1, A2, c2, rfl, l0, g0, l1, g1, l2, g2⟩
theorem k40_mk (w : World) (x : S40) {A0 : Option Addr} {c0 : Nat} (l0 : x.f0.length ≤ c0) (g0 : (Kd.int .i64).C w A0 x.f0.length x.f0) {A1 : Option Addr} {c1 : Nat} (l1 : x.f1.length ≤ c1) (g1 : (Kd.int .i64).C w A1 x.f1.length x.f1) {A2 : Option Addr} {c2 : Nat} (l2 : x.f2.length ≤ c2) (g2 : (Kd.int .i64).C w A2 x.f2.length x.f2) : k40.K w x [.slice A0 x.f0.length c0, .slice A1 x.f1.length c1, .slice A2 x.f2.length c2] := ⟨[.slice A0 x.f0.length c0], [.slice A1 x.f1.length c1, .slice A2 x.f2.length c2], rfl, ⟨A0, c0, rfl, l0, g0⟩, ⟨[.slice A1 x.f1.length c1], [.slice A2 x.f2.length c2], rfl, ⟨A1, c1, rfl, l1, g1⟩, ⟨A2, c2, rfl, l2, g2⟩⟩⟩
theorem k40_openF {W : World} {ok : Nat → Prop} {x : S40} {cs : List Value} (h : Kd.FK k40 W ok x cs) : ∃ A0 c0 A1 c1 A2 c2, cs = [.slice A0 x.f0.length c0, .slice A1 x.f1.length c1, .slice A2 x.f2.length c2] ∧ x.f0.length ≤ c0 ∧ Kd.F (Kd.int .i64) W ok A0 x.f0.length x.f0 ∧ x.f1.length ≤ c1 ∧ Kd.F (Kd.int .i64) W ok A1 x.f1.length x.f1 ∧ x.f2.length ≤ c2 ∧ Kd.F (Kd.int .i64) W ok A2 x.f2.length x.f2 := by
  obtain ⟨A0, c0, A1, c1, A2, c2, rfl, l0, _, l1, _, l2, _⟩ := k40_open (Kd.FK_now h)
  exact ⟨A0, c0, A1, c1, A2, c2, rfl, l0, (fun W' hW => by obtain ⟨A0_, c0_, A1_, c1_, A2_, c2_, he, l0_, g0_, l1_, g1_, l2_, g2_⟩ := k40_open (h W' hW); injection (Option.some.inj (show some (Value.slice A0 x.f0.length c0) = some (Value.slice A0_ x.f0.length c0_) from congrArg (fun l => l[0]?) he)) with ha_ _ _; rw [ha_]; exact g0_), l1, (fun W' hW => by obtain ⟨A0_, c0_, A1_, c1_, A2_, c2_, he, l0_, g0_, l1_, g1_, l2_, g2_⟩ := k40_open (h W' hW); injection (Option.some.inj (show some (Value.slice A1 x.f1.length c1) = some (Value.slice A1_ x.f1.length c1_) from congrArg (fun l => l[1]?) he)) with ha_ _ _; rw [ha_]; exact g1_), l2, (fun W' hW => by obtain ⟨A0_, c0_, A1_, c1_, A2_, c2_, he, l0_, g0_, l1_, g1_, l2_, g2_⟩ := k40_open (h W' hW); injection (Option.some.inj (show some (Value.slice A2 x.f2.length c2) = some (Value.slice A2_ x.f2.length c2_) from congrArg (fun l => l[2]?) he)) with ha_ _ _; rw [ha_]; exact g2_)⟩
theorem k40_mkF (W : World) (ok : Nat → Prop) (x : S40) {A0 : Option Addr} {c0 : Nat} (l0 : x.f0.length ≤ c0) (g0 : Kd.F (Kd.int .i64) W ok A0 x.f0.length x.f0) {A1 : Option Addr} {c1 : Nat} (l1 : x.f1.length ≤ c1) (g1 : Kd.F (Kd.int .i64) W ok A1 x.f1.length x.f1) {A2 : Option Addr} {c2 : Nat} (l2 : x.f2.length ≤ c2) (g2 : Kd.F (Kd.int .i64) W ok A2 x.f2.length x.f2) : Kd.FK k40 W ok x [.slice A0 x.f0.length c0, .slice A1 x.f1.length c1, .slice A2 x.f2.length c2] := fun W2 hW => k40_mk W2 x l0 (g0 W2 hW) l1 (g1 W2 hW) l2 (g2 W2 hW)
theorem k40_mkFV (w : World) (base : Nat) (ok : Nat → Prop) (x : S40) {v0 : Value} (g0 : (Kd.int .i64).R 3 w base ok v0 x.f0) {v1 : Value} (g1 : (Kd.int .i64).R 3 w base ok v1 x.f1) {v2 : Value} (g2 : (Kd.int .i64).R 3 w base ok v2 x.f2) : Kd.FK k40 w ok x [v0, v1, v2] := by
  obtain ⟨A0_, c0_, rfl⟩ := Kd.R_slice g0
  obtain ⟨A1_, c1_, rfl⟩ := Kd.R_slice g1
  obtain ⟨A2_, c2_, rfl⟩ := Kd.R_slice g2
  exact k40_mkF w ok x (Kd.R_reads' g0).2.1 (Kd.R_F g0) (Kd.R_reads' g1).2.1 (Kd.R_F g1) (Kd.R_reads' g2).2.1 (Kd.R_F g2)
def rd_T40 (xs : List S40) (i : Int) : S40 := xs.getD i.toNat z40
theorem at_T40 {w : World} {A : Option Addr} {n : Nat} {xs : List S40} (h : Kd.C k40 w A n xs) (i : Int) (h0 : 0 ≤ i) (h1 : i < n) : ∃ ad A0 c0 A1 c1 A2 c2, A = some ad ∧ w.cell? (ad.add (i.toNat * 3)) = some (.slice A0 (rd_T40 xs i).f0.length c0) ∧ w.cell? ⟨(ad.add (i.toNat * 3)).block, (ad.add (i.toNat * 3)).off + 1, none⟩ = some (.slice A1 (rd_T40 xs i).f1.length c1) ∧ w.cell? ⟨(ad.add (i.toNat * 3)).block, (ad.add (i.toNat * 3)).off + 2, none⟩ = some (.slice A2 (rd_T40 xs i).f2.length c2) ∧ (rd_T40 xs i).f0.length ≤ c0 ∧ (Kd.int .i64).C w A0 (rd_T40 xs i).f0.length (rd_T40 xs i).f0 ∧ (rd_T40 xs i).f1.length ≤ c1 ∧ (Kd.int .i64).C w A1 (rd_T40 xs i).f1.length (rd_T40 xs i).f1 ∧ (rd_T40 xs i).f2.length ≤ c2 ∧ (Kd.int .i64).C w A2 (rd_T40 xs i).f2.length (rd_T40 xs i).f2 := by
  obtain ⟨ad, c, e, _, hK, hc0⟩ := Kd.C_get h z40 i h0 h1
  have hc : ∀ j u, c[j]? = some u → w.cell? (ad.add (i.toNat * 3 + j)) = some u := hc0
  obtain ⟨A0, c0, A1, c1, A2, c2, rfl, l0, g0, l1, g1, l2, g2⟩ := k40_open hK
  exact ⟨ad, A0, c0, A1, c1, A2, c2, e, hc 0 _ rfl, by rw [← add_field _ _ 1 (by omega)]; exact hc 1 _ rfl, by rw [← add_field _ _ 2 (by omega)]; exact hc 2 _ rfl, l0, g0, l1, g1, l2, g2⟩
structure S92 where
  f0 : (List Int)
  f1 : (List Int)
  f2 : (List Int)
def laws_big.f (l0 : List Int) : Option (Bool) := some (decide ((l0.length : Int) > 1048576))
set_option maxHeartbeats 8000000 in
set_option maxRecDepth 100000 in
theorem laws_big.calls (A0 : Option Addr) (c0 : Nat) (l0 : List Int) (r : Bool) (w : World) (hr0 : Kd.C (Kd.int .u8) w A0 l0.length l0) (hc0 : l0.length ≤ c0) (h : laws_big.f l0 = some r) :
  Calls Try.prog 23 #[.slice A0 l0.length c0] w fun e w' => e = .returned (.bool r) ∧ Drawn0 w w' := by
 have HR0 := Aside0.mk hr0
 have HC0 := Aside0.mk hc0
 clear hr0 hc0
 have H : (some (decide ((l0.length : Int) > 1048576))) = some r := h
 clear h
 obtain rfl := Option.some.inj H
 go_enter Try.func23, Try.ntmps23
 go_wp2
 go_ret
 exact ⟨rS, rD⟩
def spec_ScOf.f (a0 : Int) : Option (Int) := if (Int.tmod a0 1009) < 0 then (some (wrap64 ((Int.tmod a0 1009) + 1009))) else (some (Int.tmod a0 1009))
set_option maxHeartbeats 8000000 in
set_option maxRecDepth 100000 in
theorem spec_ScOf.calls (a0 : Int) (r : Int) (w : World) (h : spec_ScOf.f a0 = some r) :
  Calls Try.prog 47 #[.int .i64 a0] w fun e w' => e = .returned (.int .i64 r) ∧ Drawn0 w w' := by
 have H : (if (Int.tmod a0 1009) < 0 then (some (wrap64 ((Int.tmod a0 1009) + 1009))) else (some (Int.tmod a0 1009))) = some r := h
 clear h
 by_cases c2 : (Int.tmod a0 1009) < 0
 ·rw [if_pos c2] at H
  have c2b0 := decide_eq_true c2
  clear c2
  obtain rfl := Option.some.inj H
  go_enter Try.func47, Try.ntmps47
  go_wp2
  go_ret
  exact ⟨rS, rD⟩
 ·rw [if_neg c2] at H
  have c2b0 := decide_eq_false c2
  clear c2
  obtain rfl := Option.some.inj H
  go_enter Try.func47, Try.ntmps47
  go_wp2
  go_ret
  exact ⟨rS, rD⟩
def spec_ScMul.f (a0 : Int) (a1 : Int) : Option (Int) := (spec_ScOf.f a0).bind fun t101 => ((spec_ScOf.f a1).bind fun t102 => ((spec_ScOf.f (wrap64 (t101 * t102))).bind fun t103 => (some t103)))
set_option maxHeartbeats 8000000 in
set_option maxRecDepth 100000 in
theorem spec_ScMul.calls (a0 : Int) (a1 : Int) (r : Int) (w : World) (h : spec_ScMul.f a0 a1 = some r) :
  Calls Try.prog 28 #[.int .i64 a0, .int .i64 a1] w fun e w' => e = .returned (.int .i64 r) ∧ Drawn0 w w' := by
 have H : ((spec_ScOf.f a0).bind fun t101 => ((spec_ScOf.f a1).bind fun t102 => ((spec_ScOf.f (wrap64 (t101 * t102))).bind fun t103 => (some t103)))) = some r := h
 clear h
 replace H := Option.bind_eq_some_iff.mp H
 obtain ⟨t101, A30, H⟩ := H
 have A3 := Aside0.mk A30
 clear A30
 replace H := Option.bind_eq_some_iff.mp H
 obtain ⟨t102, A40, H⟩ := H
 have A4 := Aside0.mk A40
 clear A40
 replace H := Option.bind_eq_some_iff.mp H
 obtain ⟨t103, A50, H⟩ := H
 have A5 := Aside0.mk A50
 clear A50
 obtain rfl := Option.some.inj H
 go_enter Try.func28, Try.ntmps28
 go_wp2_with (first | (refine gC (some 6) Try.func47 #[.int .i64 a0] ?_; (with_reducible refine (spec_ScOf.calls a0 t101 _ A3.out).mono ?_); rintro e w' ⟨rfl, ⟨nd, rfl⟩⟩; refine ⟨_, rfl, ?_⟩) | (refine gC (some 8) Try.func47 #[.int .i64 a1] ?_; (with_reducible refine (spec_ScOf.calls a1 t102 _ A4.out).mono ?_); rintro e w' ⟨rfl, ⟨nd, rfl⟩⟩; refine ⟨_, rfl, ?_⟩) | (refine gC (some 10) Try.func47 #[.int .i64 (wrap64 (t101 * t102))] ?_; (with_reducible refine (spec_ScOf.calls (wrap64 (t101 * t102)) t103 _ A5.out).mono ?_); rintro e w' ⟨rfl, ⟨nd, rfl⟩⟩; refine ⟨_, rfl, ?_⟩))
 go_ret
 exact ⟨rS, rD⟩
def spec_ScAdd.f (a0 : Int) (a1 : Int) : Option (Int) := (spec_ScOf.f a0).bind fun t104 => ((spec_ScOf.f a1).bind fun t105 => ((spec_ScOf.f (wrap64 (t104 + t105))).bind fun t106 => (some t106)))
set_option maxHeartbeats 8000000 in
set_option maxRecDepth 100000 in
theorem spec_ScAdd.calls (a0 : Int) (a1 : Int) (r : Int) (w : World) (h : spec_ScAdd.f a0 a1 = some r) :
  Calls Try.prog 27 #[.int .i64 a0, .int .i64 a1] w fun e w' => e = .returned (.int .i64 r) ∧ Drawn0 w w' := by
 have H : ((spec_ScOf.f a0).bind fun t104 => ((spec_ScOf.f a1).bind fun t105 => ((spec_ScOf.f (wrap64 (t104 + t105))).bind fun t106 => (some t106)))) = some r := h
 clear h
 replace H := Option.bind_eq_some_iff.mp H
 obtain ⟨t104, A30, H⟩ := H
 have A3 := Aside0.mk A30
 clear A30
 replace H := Option.bind_eq_some_iff.mp H
 obtain ⟨t105, A40, H⟩ := H
 have A4 := Aside0.mk A40
 clear A40
 replace H := Option.bind_eq_some_iff.mp H
 obtain ⟨t106, A50, H⟩ := H
 have A5 := Aside0.mk A50
 clear A50
 obtain rfl := Option.some.inj H
 go_enter Try.func27, Try.ntmps27
 go_wp2_with (first | (refine gC (some 6) Try.func47 #[.int .i64 a0] ?_; (with_reducible refine (spec_ScOf.calls a0 t104 _ A3.out).mono ?_); rintro e w' ⟨rfl, ⟨nd, rfl⟩⟩; refine ⟨_, rfl, ?_⟩) | (refine gC (some 8) Try.func47 #[.int .i64 a1] ?_; (with_reducible refine (spec_ScOf.calls a1 t105 _ A4.out).mono ?_); rintro e w' ⟨rfl, ⟨nd, rfl⟩⟩; refine ⟨_, rfl, ?_⟩) | (refine gC (some 10) Try.func47 #[.int .i64 (wrap64 (t104 + t105))] ?_; (with_reducible refine (spec_ScOf.calls (wrap64 (t104 + t105)) t106 _ A5.out).mono ?_); rintro e w' ⟨rfl, ⟨nd, rfl⟩⟩; refine ⟨_, rfl, ?_⟩))
 go_ret
 exact ⟨rS, rD⟩
end Go.Proofs.Ytcnejiflpioaiaa.Pf
end
section
namespace Go.Proofs.Ytcnejiflpioaiaa.Pf
open Go.RowKit Go.Proofs.YtcnejiflpioaiaaW.PrintWords Go.Proofs.YtcnejiflpioaiaaW.PrintLast Go.Proofs.YtcnejiflpioaiaaW.PrintMore
attribute [local go_sem] max2_int min2_int max_two min_two max_three min_three max_four min_four   -- for this text's walks alone
set_option linter.unusedVariables false
set_option linter.unusedSimpArgs false
mutual
def spec_ScDot.l0 : Nat → List Int → List Int → Int → Int → Option (Int)
 | 0, _, _, _, _ => none
 | k + 1, x0, x1, x5, x6 => if x6 < (x0.length : Int) then (spec_ScDot.j1 k x0 x1 x5 x6 (decide (x6 < (x1.length : Int)))) else (spec_ScDot.j1 k x0 x1 x5 x6 false)
def spec_ScDot.j1 : Nat → List Int → List Int → Int → Int → Bool → Option (Int)
 | 0, _, _, _, _, _ => none
 | k + 1, x0, x1, x5, x6, x16 => if x16 = true then (if 0 ≤ x6 then (if x6 < (x0.length : Int) then (if x6 < (x1.length : Int) then ((spec_ScMul.f (rd x0 x6) (rd x1 x6)).bind fun t109 => ((spec_ScAdd.f x5 t109).bind fun t110 => (spec_ScDot.l0 k x0 x1 t110 (wrap64 (x6 + 1))))) else (none)) else (none)) else (none)) else (some x5)
end
def spec_ScDot.f (k : Nat) (l0 : List Int) (l1 : List Int) : Option (Int) := spec_ScDot.l0 k l0 l1 0 0
set_option maxHeartbeats 8000000 in
set_option maxRecDepth 100000 in
theorem spec_ScDot.calls (k : Nat) (A0 : Option Addr) (c0 : Nat) (l0 : List Int) (A1 : Option Addr) (c1 : Nat) (l1 : List Int) (r : Int) (w : World) (hr0 : Kd.C (Kd.int .i64) w A0 l0.length l0) (hc0 : l0.length ≤ c0) (hr1 : Kd.C (Kd.int .i64) w A1 l1.length l1) (hc1 : l1.length ≤ c1) (h : spec_ScDot.f k l0 l1 = some r) :
  Calls Try.prog 29 #[.slice A0 l0.length c0, .slice A1 l1.length c1] w fun e w' => e = .returned (.int .i64 r) ∧ Drawn0 w w' := by
 have HR0 := Aside0.mk hr0
 have HC0 := Aside0.mk hc0
 clear hr0 hc0
 have HR1 := Aside0.mk hr1
 have HC1 := Aside0.mk hc1
 clear hr1 hc1
 have H : (spec_ScDot.l0 k l0 l1 0 0) = some r := h
 clear h
 have H' := Aside0.mk H
 clear H
 go_enter Try.func29, Try.ntmps29
 go_wp2
 repeat (go_quiet (fail); try go_wp2)
 go_loopg [5, 6] k (fun kq v5 v6 w' => ∃ (x5_1 : Int) (x6_1 : Int), v5 = .int .i64 x5_1 ∧ v6 = .int .i64 x6_1 ∧ Aside0 (spec_ScDot.l0 kq l0 l1 x5_1 x6_1 = some r) ∧ Aside0 (kq ≤ k) ∧ Drawn0 w w')
 case atStart => exact ⟨(0), (0), rS, rS, H', ⟨Nat.le_refl _⟩, by repeat (first | exact Drawn0.refl _ | apply Drawn0.step)⟩
 case round =>
  clear H'
  try clear c1
  try clear c2
  try clear p2
  obtain ⟨x5_1, x6_1, rfl, rfl, HA, HK1, ⟨m1, rfl⟩⟩ := hrel
  cases gk with
  | zero => exact absurd HA.out (by simp [spec_ScDot.l0])
  | succ k1 =>
   have H := HA.out
   clear HA
   simp only [spec_ScDot.l0] at H
   have HC3 := Aside0.mk H
   clear H
   go_upto_region 3 with (fail)
   repeat (go_quiet (fail); go_upto_region 3 with (fail))
   go_cut [16] (fun v16 wc => ∃ (kq : Nat) (x16_2 : Bool), v16 = .bool x16_2 ∧ Aside0 (spec_ScDot.j1 kq l0 l1 x5_1 x6_1 x16_2 = some r) ∧ Aside0 (kq ≤ k1) ∧ Drawn0 w wc)
   case first =>
    have H := HC3.out
    clear HC3
    by_cases c4 : x6_1 < (l0.length : Int)
    ·rw [if_pos c4] at H
     have c4b0 := decide_eq_true c4
     clear c4
     (first | rw [c4b0] | (simp only [i64_w, i32_w]; rw [c4b0]) | rw [c4b1] | skip)
     have H' := Aside0.mk H
     clear H
     go_wp2
     repeat (go_quiet (fail); try go_wp2)
     go_meet
     case rel => exact ⟨_, (decide (x6_1 < (l1.length : Int))), rS, H', ⟨by have := HK1.out; first | omega | exact Nat.le_refl _⟩, by repeat (first | exact Drawn0.refl _ | apply Drawn0.step)⟩
    ·rw [if_neg c4] at H
     have c4b0 := decide_eq_false c4
     clear c4
     (first | rw [c4b0] | (simp only [i64_w, i32_w]; rw [c4b0]) | rw [c4b1] | skip)
     have H' := Aside0.mk H
     clear H
     go_wp2
     repeat (go_quiet (fail); try go_wp2)
     go_meet
     case rel => exact ⟨_, (false), rS, H', ⟨by have := HK1.out; first | omega | exact Nat.le_refl _⟩, by repeat (first | exact Drawn0.refl _ | apply Drawn0.step)⟩
   case rest =>
    clear HC3
    try clear c1
    try clear c2
    try clear p2
    try clear c4
    try clear c4b0
    try clear p2
    obtain ⟨kq, x16_2, rfl, HA, HJ2, ⟨mc2, rfl⟩⟩ := hcut
    cases kq with
    | zero => exact absurd HA.out (by simp [spec_ScDot.j1])
    | succ kj2 =>
     have H := HA.out
     clear HA
     simp only [spec_ScDot.j1] at H
     by_cases c5 : x16_2 = true
     ·subst c5
      rw [if_pos rfl] at H
      by_cases c6 : 0 ≤ x6_1
      ·rw [if_pos c6] at H
       have c6b0 := decide_eq_true c6
       clear c6
       by_cases c7 : x6_1 < (l0.length : Int)
       ·rw [if_pos c7] at H
        have c7b0 := decide_eq_true c7
        clear c7
        by_cases c8 : x6_1 < (l1.length : Int)
        ·rw [if_pos c8] at H
         have c8b0 := decide_eq_true c8
         clear c8
         replace H := Option.bind_eq_some_iff.mp H
         obtain ⟨t109, A90, H⟩ := H
         have A9 := Aside0.mk A90
         clear A90
         replace H := Option.bind_eq_some_iff.mp H
         obtain ⟨t110, A100, H⟩ := H
         have A10 := Aside0.mk A100
         clear A100
         have H' := Aside0.mk H
         clear H
         have p107 : 0 ≤ (x6_1 : Int) := of_decide_eq_true (by first | (with_reducible assumption) | assumption)
         have q107 : x6_1 < (l0.length : Int) := of_decide_eq_true (by first | (with_reducible assumption) | assumption)
         obtain ⟨ad107, e107, hx107_0⟩ := Kd.at_int HR0.out x6_1 p107 q107
         cases e107
         replace p107 := eq_true p107
         replace q107 := eq_true q107
         have p108 : 0 ≤ (x6_1 : Int) := of_decide_eq_true (by first | (with_reducible assumption) | assumption)
         have q108 : x6_1 < (l1.length : Int) := of_decide_eq_true (by first | (with_reducible assumption) | assumption)
         obtain ⟨ad108, e108, hx108_0⟩ := Kd.at_int HR1.out x6_1 p108 q108
         cases e108
         replace p108 := eq_true p108
         replace q108 := eq_true q108
         go_wp2_with (first | (go_at_call 28; (with_reducible refine (spec_ScMul.calls (rd l0 x6_1) (rd l1 x6_1) t109 _ A9.out).mono ?_); rintro e w' ⟨rfl, ⟨nd, rfl⟩⟩; (try exact tD)) | (go_at_call 27; (with_reducible refine (spec_ScAdd.calls x5_1 t109 t110 _ A10.out).mono ?_); rintro e w' ⟨rfl, ⟨nd, rfl⟩⟩; (try exact tD)))
         repeat (go_quiet (first | (go_at_call 28; (with_reducible refine (spec_ScMul.calls (rd l0 x6_1) (rd l1 x6_1) t109 _ A9.out).mono ?_); rintro e w' ⟨rfl, ⟨nd, rfl⟩⟩; (try exact tD)) | (go_at_call 27; (with_reducible refine (spec_ScAdd.calls x5_1 t109 t110 _ A10.out).mono ?_); rintro e w' ⟨rfl, ⟨nd, rfl⟩⟩; (try exact tD))); try go_wp2_with (first | (go_at_call 28; (with_reducible refine (spec_ScMul.calls (rd l0 x6_1) (rd l1 x6_1) t109 _ A9.out).mono ?_); rintro e w' ⟨rfl, ⟨nd, rfl⟩⟩; (try exact tD)) | (go_at_call 27; (with_reducible refine (spec_ScAdd.calls x5_1 t109 t110 _ A10.out).mono ?_); rintro e w' ⟨rfl, ⟨nd, rfl⟩⟩; (try exact tD))))
         go_roundg kj2
         case measure => have := HK1.out; have := HJ2.out; omega
         case rel => exact ⟨(t110), (wrap64 (x6_1 + 1)), rS, rS, H', ⟨by have := HK1.out; have := HJ2.out; omega⟩, by repeat (first | exact Drawn0.refl _ | apply Drawn0.step)⟩
        ·rw [if_neg c8] at H
         exact absurd H (by simp)
       ·rw [if_neg c7] at H
        exact absurd H (by simp)
      ·rw [if_neg c6] at H
       exact absurd H (by simp)
     ·replace c5 := Bool.eq_false_iff.mpr c5
      subst c5
      rw [if_neg (show ¬ (false = true) by decide)] at H
      obtain rfl := Option.some.inj H
      go_wp2
      repeat (go_quiet (fail); try go_wp2)
      go_ret
      exact ⟨rS, rD⟩
end Go.Proofs.Ytcnejiflpioaiaa.Pf
end
section
namespace Go.Proofs.Ytcnejiflpioaiaa.Pf
open Go.RowKit Go.Proofs.YtcnejiflpioaiaaW.PrintWords Go.Proofs.YtcnejiflpioaiaaW.PrintLast Go.Proofs.YtcnejiflpioaiaaW.PrintMore
attribute [local go_sem] max2_int min2_int max_two min_two max_three min_three max_four min_four   -- for this text's walks alone
set_option linter.unusedVariables false
set_option linter.unusedSimpArgs false
def IsS88 (w0 W : World) (g : Nat) (f0 : List Int) (f1 : Int) (f2 : Int) : Prop := ∃ A0 c0, W.heap[g]? = some (.cells #[.slice A0 f0.length c0, .int .i64 f1, .int .i64 f2] 88 (0, 0)) ∧ w0.heap.size ≤ g ∧ Kd.C (Kd.int .u8) w0 A0 f0.length f0
theorem IsS88.grown {w0 W : World} {g : Nat} {f0 : List Int} {f1 : Int} {f2 : Int} {W1 : World} {row : Option Nat} (h : IsS88 w0 W g f0 f1 f2) (hw : W.grownBy W1 row) (hne : some g ≠ row) : IsS88 w0 W1 g f0 f1 f2 := by
 obtain ⟨A0, c0, hb, hg, hr0⟩ := h
 exact ⟨A0, c0, blk_grown hb hw hne, hg, hr0⟩
theorem IsS88.own_neN {w0 W : World} {g : Nat} {f0 : List Int} {f1 : Int} {f2 : Int} {α : Type} {d : Kd α} {e : Nat} {base : Nat} {ok : Nat → Prop} {v : Value} {xs : List α} (h : IsS88 w0 W g f0 f1 f2) (ho : Kd.N d e W base ok v xs) (ht : e ≠ 88) : some g ≠ v.ownBlock := by
 obtain ⟨A0, c0, hb, hg, hr0⟩ := h
 exact Kd.N_ne ho hb ht
theorem IsS88.fresh {w0 W : World} {g : Nat} {f0 : List Int} {f1 : Int} {f2 : Int} (h : IsS88 w0 W g f0 f1 f2) : ∀ k, W.heap.size ≤ k → k ≠ g := by
 obtain ⟨A0, c0, hb, hg, hr0⟩ := h
 exact Kd.freshB hb
theorem IsS88.kept {w0 W : World} {g : Nat} {f0 : List Int} {f1 : Int} {f2 : Int} {W1 : World} {S : Nat → Prop} (h : IsS88 w0 W g f0 f1 f2) (hk : Kept W W1 S) (hne : ¬ S g) : IsS88 w0 W1 g f0 f1 f2 := by
 obtain ⟨A0, c0, hb, hg, hr0⟩ := h
 exact ⟨A0, c0, blk_kept hb hk hne, hg, hr0⟩
theorem IsS88.below {w0 W : World} {g : Nat} {f0 : List Int} {f1 : Int} {f2 : Int} {W1 : World} (h : IsS88 w0 W g f0 f1 f2) (hw : Below W.heap.size W W1) : IsS88 w0 W1 g f0 f1 f2 := h.grown (grown_of_below hw none) (by simp)
theorem IsS88.alloc {w0 W : World} {g : Nat} {f0 : List Int} {f1 : Int} {f2 : Int} (h : IsS88 w0 W g f0 f1 f2) (o : Obj) : IsS88 w0 (W.alloc o) g f0 f1 f2 := h.below (below_alloc (Below.refl _ _) o)
theorem IsS88.drewN {w0 W : World} {g : Nat} {f0 : List Int} {f1 : Int} {f2 : Int} (h : IsS88 w0 W g f0 f1 f2) (m : Nat) : IsS88 w0 (W.drewN m) g f0 f1 f2 := h
theorem IsS88.drew {w0 W : World} {g : Nat} {f0 : List Int} {f1 : Int} {f2 : Int} (h : IsS88 w0 W g f0 f1 f2) : IsS88 w0 W.drew g f0 f1 f2 := h
theorem IsS88.at_ {w0 W : World} {g : Nat} {f0 : List Int} {f1 : Int} {f2 : Int} {w' : World} {m : Nat} (hq : W.drewN m = w') (h : IsS88 w0 W g f0 f1 f2) : IsS88 w0 w' g f0 f1 f2 := by subst hq; exact IsS88.drewN h m
theorem IsS88.apart {w0 W : World} {g : Nat} {f0 : List Int} {f1 : Int} {f2 : Int} {α : Type} {d : Kd α} {e : Nat} {base : Nat} {ok : Nat → Prop} {v : Value} {xs : List α} (h : IsS88 w0 W g f0 f1 f2) (ho : d.R e W base ok v xs) (ht : ∀ q, q ∈ e :: d.E → q ≠ 88) : d.R e W base (fun k => ok k ∧ k ≠ g) v xs := by
 obtain ⟨A0, c0, hb, hg, hr0⟩ := h
 exact Kd.R_types ho hb ht
theorem IsS88.own_ne {w0 W : World} {g : Nat} {f0 : List Int} {f1 : Int} {f2 : Int} {α : Type} {d : Kd α} {e : Nat} {base : Nat} {ok : Nat → Prop} {v : Value} {xs : List α} (h : IsS88 w0 W g f0 f1 f2) (ho : d.R e W base ok v xs) (ht : e ≠ 88) : some g ≠ v.ownBlock := by
 obtain ⟨A0, c0, hb, hg, hr0⟩ := h
 exact Kd.R_ne ho hb ht
theorem IsS88.lt {w0 W : World} {g : Nat} {f0 : List Int} {f1 : Int} {f2 : Int} (h : IsS88 w0 W g f0 f1 f2) : g < W.heap.size := by
 obtain ⟨A0, c0, hb, hg, hr0⟩ := h
 exact blk_lt hb
theorem IsS88.ge {w0 W : World} {g : Nat} {f0 : List Int} {f1 : Int} {f2 : Int} (h : IsS88 w0 W g f0 f1 f2) : w0.heap.size ≤ g := by
 obtain ⟨A0, c0, hb, hg, hr0⟩ := h
 exact hg
theorem IsS88.ne_blk {w0 W : World} {g : Nat} {f0 : List Int} {f1 : Int} {f2 : Int} {a : Nat} {cs : Array Value} {t : TypeId} {fr : Nat × Nat} (h : IsS88 w0 W g f0 f1 f2) (hb2 : W.heap[a]? = some (.cells cs t fr)) (ht : t ≠ 88) : g ≠ a := by
 obtain ⟨A0, c0, hb, hg, hr0⟩ := h
 rintro rfl
 rw [hb] at hb2
 injection hb2 with hb2
 injection hb2 with _ ht2
 exact ht ht2.symm
theorem IsS88.far {w0 W : World} {g : Nat} {f0 : List Int} {f1 : Int} {f2 : Int} {p : Addr} (h : IsS88 w0 W g f0 f1 f2) (hne : g ≠ p.block) (u : Value) : IsS88 w0 (W.setCell p u) g f0 f1 f2 := by
 obtain ⟨A0, c0, hb, hg, hr0⟩ := h
 exact ⟨A0, c0, blk_far hb hne u, hg, hr0⟩
theorem cellS88_0 {W : World} {g : Nat} {A0 : Option Addr} {c0 : Nat} {f0 : List Int} {f1 : Int} {f2 : Int} (h : W.heap[g]? = some (.cells #[.slice A0 f0.length c0, .int .i64 f1, .int .i64 f2] 88 (0, 0))) : W.cell? ⟨g, 0, none⟩ = some (.slice A0 f0.length c0) := (blk_cell h 0).trans rfl
theorem cellS88_1 {W : World} {g : Nat} {A0 : Option Addr} {c0 : Nat} {f0 : List Int} {f1 : Int} {f2 : Int} (h : W.heap[g]? = some (.cells #[.slice A0 f0.length c0, .int .i64 f1, .int .i64 f2] 88 (0, 0))) : W.cell? ⟨g, 1, none⟩ = some (.int .i64 f1) := (blk_cell h 1).trans rfl
theorem IsS88.set_1 {w0 W : World} {g : Nat} {f0 : List Int} {f1 : Int} {f2 : Int} (h : IsS88 w0 W g f0 f1 f2) (x : Int) : IsS88 w0 (W.setCell ⟨g, 1, none⟩ (.int .i64 x)) g f0 x f2 := by
 obtain ⟨A0, c0, hb, hg, hr0⟩ := h
 exact ⟨A0, c0, by simpa using blk_set hb 1 (.int .i64 x), hg, hr0⟩
theorem cellS88_2 {W : World} {g : Nat} {A0 : Option Addr} {c0 : Nat} {f0 : List Int} {f1 : Int} {f2 : Int} (h : W.heap[g]? = some (.cells #[.slice A0 f0.length c0, .int .i64 f1, .int .i64 f2] 88 (0, 0))) : W.cell? ⟨g, 2, none⟩ = some (.int .i64 f2) := (blk_cell h 2).trans rfl
theorem IsS88.set_2 {w0 W : World} {g : Nat} {f0 : List Int} {f1 : Int} {f2 : Int} (h : IsS88 w0 W g f0 f1 f2) (x : Int) : IsS88 w0 (W.setCell ⟨g, 2, none⟩ (.int .i64 x)) g f0 f1 x := by
 obtain ⟨A0, c0, hb, hg, hr0⟩ := h
 exact ⟨A0, c0, by simpa using blk_set hb 2 (.int .i64 x), hg, hr0⟩
theorem iZ88 {p q : Prop} (B : Aside0 p) (h : Aside0 p → q := by intro hh_; repeat (first | (with_reducible first | exact hh_.out | apply IsS88.alloc | apply IsS88.drewN | apply IsS88.drew | apply IsS88.set_1 | apply IsS88.set_2 | refine IsS88.far ?_ (by refine Aside0.out ?_; assumption) _) | exact hh_.out)) : q := h B
theorem jZ88 {p q r : Prop} (B : Aside0 p) (I_ : Aside0 r) (h : Aside0 p → Aside0 r → q := by intro hh_ hi_; repeat (first | (with_reducible first | exact hh_.out | apply below_alloc | apply pw_below_drewN | apply below_drew1 | refine below_set ?_ (IsS88.ge hi_.out) | refine below_set ?_ (by refine Aside0.out ?_; assumption)) | exact hh_.out)) : q := h B I_
def spec_l01Byte.f (s0_0 : List Int) (s0_1 : Int) (s0_2 : Int) : Option (Int × Int × Int) := if s0_1 < (s0_0.length : Int) then (if 0 ≤ s0_1 then (some (Go.bits .and .i64 (wrap64 ((Go.bits .and .i64 (Go.bits .xor .i64 ((wrap64 ((wrap64 (s0_2 * 6364136223846793005)) + 1442695040888963407)) / 8589934592) ((wrap64 ((wrap64 (s0_2 * 6364136223846793005)) + 1442695040888963407)) / 35184372088832)) 255) + (wrap64 (rd s0_0 s0_1)))) 255, wrap64 (s0_1 + 1), wrap64 ((wrap64 (s0_2 * 6364136223846793005)) + 1442695040888963407))) else (none)) else (some (Go.bits .and .i64 (Go.bits .xor .i64 ((wrap64 ((wrap64 (s0_2 * 6364136223846793005)) + 1442695040888963407)) / 8589934592) ((wrap64 ((wrap64 (s0_2 * 6364136223846793005)) + 1442695040888963407)) / 35184372088832)) 255, s0_1, wrap64 ((wrap64 (s0_2 * 6364136223846793005)) + 1442695040888963407)))
set_option maxHeartbeats 8000000 in
set_option maxRecDepth 100000 in
theorem spec_l01Byte.calls (g : Nat) (s0_0 : List Int) (s0_1 : Int) (s0_2 : Int) (r1 : Int) (r2 : Int) (r3 : Int) (w0 w : World) (hI : IsS88 w0 w g s0_0 s0_1 s0_2) (hB : Below w0.heap.size w0 w) (h : spec_l01Byte.f s0_0 s0_1 s0_2 = some (r1, r2, r3)) :
  Calls Try.prog 66 #[.pointer (some ⟨g, 0, none⟩)] w fun e w' => e = .returned (.int .i64 r1) ∧ IsS88 w0 w' g s0_0 r2 r3 ∧ Below w0.heap.size w0 w' ∧ KeepBut w w' g none := by
 have HI0 := Aside0.mk hI
 have HK := Aside0.mk (KeepBut.refl w g none)
 have HL := Aside0.mk hB.size
 clear hI
 have HW0 := Aside0.mk hB.size
 have HB := Aside0.mk hB
 clear hB
 have H : (if s0_1 < (s0_0.length : Int) then (if 0 ≤ s0_1 then (some (Go.bits .and .i64 (wrap64 ((Go.bits .and .i64 (Go.bits .xor .i64 ((wrap64 ((wrap64 (s0_2 * 6364136223846793005)) + 1442695040888963407)) / 8589934592) ((wrap64 ((wrap64 (s0_2 * 6364136223846793005)) + 1442695040888963407)) / 35184372088832)) 255) + (wrap64 (rd s0_0 s0_1)))) 255, wrap64 (s0_1 + 1), wrap64 ((wrap64 (s0_2 * 6364136223846793005)) + 1442695040888963407))) else (none)) else (some (Go.bits .and .i64 (Go.bits .xor .i64 ((wrap64 ((wrap64 (s0_2 * 6364136223846793005)) + 1442695040888963407)) / 8589934592) ((wrap64 ((wrap64 (s0_2 * 6364136223846793005)) + 1442695040888963407)) / 35184372088832)) 255, s0_1, wrap64 ((wrap64 (s0_2 * 6364136223846793005)) + 1442695040888963407)))) = some (r1, r2, r3) := h
 clear h
 by_cases c2 : s0_1 < (s0_0.length : Int)
 ·rw [if_pos c2] at H
  have c2b0 := decide_eq_true c2
  clear c2
  by_cases c3 : 0 ≤ s0_1
  ·rw [if_pos c3] at H
   have c3b0 := decide_eq_true c3
   clear c3
   simp only [Option.some.injEq, Prod.mk.injEq] at H
   obtain ⟨rfl, rfl, rfl⟩ := H
   obtain ⟨ASz4_0, cSz4_0, HGz4, hgz4, HSz4_0⟩ := HI0.out
   have hcz4_0 := cellS88_0 HGz4
   have hcz4_1 := cellS88_1 HGz4
   have hcz4_2 := cellS88_2 HGz4
   have hfz4_1 := blk_frozen HGz4 1
   have hfz4_2 := blk_frozen HGz4 2
   clear HGz4 hgz4
   have p111 : 0 ≤ (s0_1 : Int) := of_decide_eq_true (by first | (with_reducible assumption) | assumption)
   have q111 : s0_1 < (s0_0.length : Int) := of_decide_eq_true (by first | (with_reducible assumption) | assumption)
   obtain ⟨ad111, e111, hx111_0⟩ := Kd.at_int HSz4_0 s0_1 p111 q111
   cases e111
   have hn111_0 : ad111.block ≠ g := Nat.ne_of_lt (Nat.lt_of_lt_of_le (by have := World.block_lt_of_cell? _ _ hx111_0; first | rwa [add_block] at this | exact this) (IsS88.ge HI0.out))
   replace hx111_0 := pw_cell_below HB.out hx111_0
   replace hx111_0 := (cell_far (p := ⟨g, 2, none⟩) (by first | (rw [add_block]; exact hn111_0) | (show (Addr.add _ _).block ≠ _; rw [add_block]; exact hn111_0) | exact hn111_0) (.int .i64 (wrap64 ((wrap64 (s0_2 * 6364136223846793005)) + 1442695040888963407)))).trans hx111_0
   (try have hy111_0 := fun (n_ : Nat) => (show (((w.drewN n_).setCell ⟨g, 2, none⟩ (.int .i64 (wrap64 ((wrap64 (s0_2 * 6364136223846793005)) + 1442695040888963407))))).cell? _ = some _ from hx111_0))
   clear hn111_0
   replace p111 := eq_true p111
   replace q111 := eq_true q111
   go_enter Try.func66, Try.ntmps66
   go_wp2
   repeat (go_quiet (fail); try go_wp2)
   go_ret
   exact ⟨by first | rfl | (simp [errW_none, errW_some] <;> rfl) | (simp [*, errW_none, errW_some] <;> rfl), iZ88 HI0, jZ88 HB HI0, kZ HK⟩
  ·rw [if_neg c3] at H
   exact absurd H (by simp)
 ·rw [if_neg c2] at H
  have c2b0 := decide_eq_false c2
  clear c2
  simp only [Option.some.injEq, Prod.mk.injEq] at H
  obtain ⟨rfl, rfl, rfl⟩ := H
  obtain ⟨ASz5_0, cSz5_0, HGz5, hgz5, HSz5_0⟩ := HI0.out
  have hcz5_0 := cellS88_0 HGz5
  have hcz5_1 := cellS88_1 HGz5
  have hcz5_2 := cellS88_2 HGz5
  have hfz5_1 := blk_frozen HGz5 1
  have hfz5_2 := blk_frozen HGz5 2
  clear HGz5 hgz5
  go_enter Try.func66, Try.ntmps66
  go_wp2
  repeat (go_quiet (fail); try go_wp2)
  go_ret
  exact ⟨by first | rfl | (simp [errW_none, errW_some] <;> rfl) | (simp [*, errW_none, errW_some] <;> rfl), iZ88 HI0, jZ88 HB HI0, kZ HK⟩
def spec_l01Below.f (s0_0 : List Int) (s0_1 : Int) (s0_2 : Int) (a1 : Int) : Option (Int × Int × Int) := if a1 ≤ 0 then (some (0, s0_1, s0_2)) else (if a1 ≤ 256 then ((spec_l01Byte.f s0_0 s0_1 s0_2).bind fun bt112 => (if a1 = 0 then (none) else (some (Int.tmod bt112.1 a1, bt112.2.1, bt112.2.2)))) else ((spec_l01Byte.f s0_0 s0_1 s0_2).bind fun bt115 => ((spec_l01Byte.f s0_0 bt115.2.1 bt115.2.2).bind fun bt118 => ((spec_l01Byte.f s0_0 bt118.2.1 bt118.2.2).bind fun bt121 => ((spec_l01Byte.f s0_0 bt121.2.1 bt121.2.2).bind fun bt124 => (if a1 = 0 then (none) else (some (Int.tmod (wrap64 ((wrap64 ((wrap64 ((wrap64 (bt115.1 * 16777216)) + (wrap64 (bt118.1 * 65536)))) + (wrap64 (bt121.1 * 256)))) + bt124.1)) a1, bt124.2.1, bt124.2.2))))))))
set_option maxHeartbeats 8000000 in
set_option maxRecDepth 100000 in
theorem spec_l01Below.calls (g : Nat) (s0_0 : List Int) (s0_1 : Int) (s0_2 : Int) (a1 : Int) (r1 : Int) (r2 : Int) (r3 : Int) (w0 w : World) (hI : IsS88 w0 w g s0_0 s0_1 s0_2) (hB : Below w0.heap.size w0 w) (h : spec_l01Below.f s0_0 s0_1 s0_2 a1 = some (r1, r2, r3)) :
  Calls Try.prog 67 #[.pointer (some ⟨g, 0, none⟩), .int .i64 a1] w fun e w' => e = .returned (.int .i64 r1) ∧ IsS88 w0 w' g s0_0 r2 r3 ∧ Below w0.heap.size w0 w' ∧ KeepBut w w' g none := by
 have HI0 := Aside0.mk hI
 have HK := Aside0.mk (KeepBut.refl w g none)
 have HL := Aside0.mk hB.size
 clear hI
 have HW0 := Aside0.mk hB.size
 have HB := Aside0.mk hB
 clear hB
 have H : (if a1 ≤ 0 then (some (0, s0_1, s0_2)) else (if a1 ≤ 256 then ((spec_l01Byte.f s0_0 s0_1 s0_2).bind fun bt112 => (if a1 = 0 then (none) else (some (Int.tmod bt112.1 a1, bt112.2.1, bt112.2.2)))) else ((spec_l01Byte.f s0_0 s0_1 s0_2).bind fun bt115 => ((spec_l01Byte.f s0_0 bt115.2.1 bt115.2.2).bind fun bt118 => ((spec_l01Byte.f s0_0 bt118.2.1 bt118.2.2).bind fun bt121 => ((spec_l01Byte.f s0_0 bt121.2.1 bt121.2.2).bind fun bt124 => (if a1 = 0 then (none) else (some (Int.tmod (wrap64 ((wrap64 ((wrap64 ((wrap64 (bt115.1 * 16777216)) + (wrap64 (bt118.1 * 65536)))) + (wrap64 (bt121.1 * 256)))) + bt124.1)) a1, bt124.2.1, bt124.2.2))))))))) = some (r1, r2, r3) := h
 clear h
 by_cases c3 : a1 ≤ 0
 ·rw [if_pos c3] at H
  have c3b0 := decide_eq_true c3
  clear c3
  simp only [Option.some.injEq, Prod.mk.injEq] at H
  obtain ⟨rfl, rfl, rfl⟩ := H
  go_enter Try.func67, Try.ntmps67
  go_wp2
  go_ret
  exact ⟨by first | rfl | (simp [errW_none, errW_some] <;> rfl) | (simp [*, errW_none, errW_some] <;> rfl), iZ88 HI0, jZ88 HB HI0, kZ HK⟩
 ·rw [if_neg c3] at H
  have c3b0 := decide_eq_false c3
  clear c3
  by_cases c4 : a1 ≤ 256
  ·rw [if_pos c4] at H
   have c4b0 := decide_eq_true c4
   clear c4
   replace H := Option.bind_eq_some_iff.mp H
   obtain ⟨⟨t112, t113, t114⟩, A50, H⟩ := H
   have A5 := Aside0.mk A50
   clear A50
   by_cases c6 : a1 = 0
   ·rw [if_pos c6] at H
    exact absurd H (by simp)
   ·rw [if_neg c6] at H
    have c6b0 : (a1 == 0) = false := beq_eq_false_iff_ne.mpr c6
    have c6b1 : (a1 != 0) = true := bne_iff_ne.mpr c6
    simp only [Option.some.injEq, Prod.mk.injEq] at H
    obtain ⟨rfl, rfl, rfl⟩ := H
    go_enter Try.func67, Try.ntmps67
    go_wp2_with (first | (refine gC (some 14) Try.func66 #[.pointer (some ⟨g, 0, none⟩)] ?_; (with_reducible refine (spec_l01Byte.calls g s0_0 s0_1 s0_2 t112 t113 t114 w0 _ ?side1 ?side2 A5.out).mono ?_); (case side1 => exact iZ88 HI0); (case side2 => exact jZ88 HB HI0); rintro e w7 ⟨rfl, hi, hb, hk⟩; refine ⟨_, rfl, ?_⟩; replace HK := Aside0.mk (KeepBut.trans (kZ HK) hk (.inl rfl)); replace HB := Aside0.mk (hb); replace HI0 := Aside0.mk (hi); (try clear hb)))
    go_ret
    exact ⟨by first | rfl | (simp [errW_none, errW_some] <;> rfl) | (simp [*, errW_none, errW_some] <;> rfl), iZ88 HI0, jZ88 HB HI0, kZ HK⟩
  ·rw [if_neg c4] at H
   have c4b0 := decide_eq_false c4
   clear c4
   replace H := Option.bind_eq_some_iff.mp H
   obtain ⟨⟨t115, t116, t117⟩, A80, H⟩ := H
   have A8 := Aside0.mk A80
   clear A80
   replace H := Option.bind_eq_some_iff.mp H
   obtain ⟨⟨t118, t119, t120⟩, A90, H⟩ := H
   have A9 := Aside0.mk A90
   clear A90
   replace H := Option.bind_eq_some_iff.mp H
   obtain ⟨⟨t121, t122, t123⟩, A100, H⟩ := H
   have A10 := Aside0.mk A100
   clear A100
   replace H := Option.bind_eq_some_iff.mp H
   obtain ⟨⟨t124, t125, t126⟩, A110, H⟩ := H
   have A11 := Aside0.mk A110
   clear A110
   by_cases c12 : a1 = 0
   ·rw [if_pos c12] at H
    exact absurd H (by simp)
   ·rw [if_neg c12] at H
    have c12b0 : (a1 == 0) = false := beq_eq_false_iff_ne.mpr c12
    have c12b1 : (a1 != 0) = true := bne_iff_ne.mpr c12
    simp only [Option.some.injEq, Prod.mk.injEq] at H
    obtain ⟨rfl, rfl, rfl⟩ := H
    go_enter Try.func67, Try.ntmps67
    go_wp2_with (first | (refine gC (some 18) Try.func66 #[.pointer (some ⟨g, 0, none⟩)] ?_; (with_reducible refine (spec_l01Byte.calls g s0_0 s0_1 s0_2 t115 t116 t117 w0 _ ?side1 ?side2 A8.out).mono ?_); (case side1 => exact iZ88 HI0); (case side2 => exact jZ88 HB HI0); rintro e w13 ⟨rfl, hi, hb, hk⟩; refine ⟨_, rfl, ?_⟩; replace HK := Aside0.mk (KeepBut.trans (kZ HK) hk (.inl rfl)); replace HB := Aside0.mk (hb); replace HI0 := Aside0.mk (hi); (try clear hb)) | (refine gC (some 20) Try.func66 #[.pointer (some ⟨g, 0, none⟩)] ?_; (with_reducible refine (spec_l01Byte.calls g s0_0 t116 t117 t118 t119 t120 w0 _ ?side1 ?side2 A9.out).mono ?_); (case side1 => exact iZ88 HI0); (case side2 => exact jZ88 HB HI0); rintro e w14 ⟨rfl, hi, hb, hk⟩; refine ⟨_, rfl, ?_⟩; replace HK := Aside0.mk (KeepBut.trans (kZ HK) hk (.inl rfl)); replace HB := Aside0.mk (hb); replace HI0 := Aside0.mk (hi); (try clear hb)) | (refine gC (some 22) Try.func66 #[.pointer (some ⟨g, 0, none⟩)] ?_; (with_reducible refine (spec_l01Byte.calls g s0_0 t119 t120 t121 t122 t123 w0 _ ?side1 ?side2 A10.out).mono ?_); (case side1 => exact iZ88 HI0); (case side2 => exact jZ88 HB HI0); rintro e w15 ⟨rfl, hi, hb, hk⟩; refine ⟨_, rfl, ?_⟩; replace HK := Aside0.mk (KeepBut.trans (kZ HK) hk (.inl rfl)); replace HB := Aside0.mk (hb); replace HI0 := Aside0.mk (hi); (try clear hb)) | (refine gC (some 24) Try.func66 #[.pointer (some ⟨g, 0, none⟩)] ?_; (with_reducible refine (spec_l01Byte.calls g s0_0 t122 t123 t124 t125 t126 w0 _ ?side1 ?side2 A11.out).mono ?_); (case side1 => exact iZ88 HI0); (case side2 => exact jZ88 HB HI0); rintro e w16 ⟨rfl, hi, hb, hk⟩; refine ⟨_, rfl, ?_⟩; replace HK := Aside0.mk (KeepBut.trans (kZ HK) hk (.inl rfl)); replace HB := Aside0.mk (hb); replace HI0 := Aside0.mk (hi); (try clear hb)))
    go_ret
    exact ⟨by first | rfl | (simp [errW_none, errW_some] <;> rfl) | (simp [*, errW_none, errW_some] <;> rfl), iZ88 HI0, jZ88 HB HI0, kZ HK⟩
def spec_l01Once.f (s0_0 : List Int) (s0_1 : Int) (s0_2 : Int) (a1 : Int) : Option (Bool × Int × Int) := (spec_l01Below.f s0_0 s0_1 s0_2 a1).bind fun bt127 => (some ((bt127.1 == 0), bt127.2.1, bt127.2.2))
set_option maxHeartbeats 8000000 in
set_option maxRecDepth 100000 in
theorem spec_l01Once.calls (g : Nat) (s0_0 : List Int) (s0_1 : Int) (s0_2 : Int) (a1 : Int) (r1 : Bool) (r2 : Int) (r3 : Int) (w0 w : World) (hI : IsS88 w0 w g s0_0 s0_1 s0_2) (hB : Below w0.heap.size w0 w) (h : spec_l01Once.f s0_0 s0_1 s0_2 a1 = some (r1, r2, r3)) :
  Calls Try.prog 77 #[.pointer (some ⟨g, 0, none⟩), .int .i64 a1] w fun e w' => e = .returned (.bool r1) ∧ IsS88 w0 w' g s0_0 r2 r3 ∧ Below w0.heap.size w0 w' ∧ KeepBut w w' g none := by
 have HI0 := Aside0.mk hI
 have HK := Aside0.mk (KeepBut.refl w g none)
 have HL := Aside0.mk hB.size
 clear hI
 have HW0 := Aside0.mk hB.size
 have HB := Aside0.mk hB
 clear hB
 have H : ((spec_l01Below.f s0_0 s0_1 s0_2 a1).bind fun bt127 => (some ((bt127.1 == 0), bt127.2.1, bt127.2.2))) = some (r1, r2, r3) := h
 clear h
 replace H := Option.bind_eq_some_iff.mp H
 obtain ⟨⟨t127, t128, t129⟩, A30, H⟩ := H
 have A3 := Aside0.mk A30
 clear A30
 simp only [Option.some.injEq, Prod.mk.injEq] at H
 obtain ⟨rfl, rfl, rfl⟩ := H
 go_enter Try.func77, Try.ntmps77
 go_wp2_with (first | (refine gC (some 7) Try.func67 #[.pointer (some ⟨g, 0, none⟩), .int .i64 a1] ?_; (with_reducible refine (spec_l01Below.calls g s0_0 s0_1 s0_2 a1 t127 t128 t129 w0 _ ?side1 ?side2 A3.out).mono ?_); (case side1 => exact iZ88 HI0); (case side2 => exact jZ88 HB HI0); rintro e w4 ⟨rfl, hi, hb, hk⟩; refine ⟨_, rfl, ?_⟩; replace HK := Aside0.mk (KeepBut.trans (kZ HK) hk (.inl rfl)); replace HB := Aside0.mk (hb); replace HI0 := Aside0.mk (hi); (try clear hb)))
 go_ret
 exact ⟨by first | rfl | (simp [errW_none, errW_some] <;> rfl) | (simp [*, errW_none, errW_some] <;> rfl), iZ88 HI0, jZ88 HB HI0, kZ HK⟩
def spec_l13Row.f (a0 : Int) : Option (List Int × List Int × List Int) := if 0 ≤ a0 then (if (a0 : Int).toNat ≤ 35184372088832 then (some ((List.replicate (a0 : Int).toNat 0), (List.replicate (a0 : Int).toNat 0), (List.replicate (a0 : Int).toNat 0))) else (none)) else (none)
def spec_l13Row.T1 : Bool × List (List Nat × List Nat) := (true, [([], []), ([0, 0], [0]), ([], []), ([2, 2], [2]), ([], []), ([4, 4], [4]), ([1, 3, 5], [1, 3, 5]), ([6, 0, 1, 2, 3, 4, 5, 6], [6])])
def spec_l13Row.B1 : List Nat := [0, 1, 0, 4, 0, 16, 63, 127]
theorem spec_l13Row.tab1 : rtab .any (opsOf Try.f91 1) = spec_l13Row.T1 := by kernel_rfl
theorem spec_l13Row.bits1 : waitsOk spec_l13Row.T1.2 spec_l13Row.B1 = true := by kernel_rfl
set_option maxHeartbeats 8000000 in
set_option maxRecDepth 100000 in
theorem spec_l13Row.calls (a0 : Int) (r1 : List Int) (r2 : List Int) (r3 : List Int) (w : World) (h : spec_l13Row.f a0 = some (r1, r2, r3)) :
  Calls Try.prog 91 #[.int .i64 a0] w fun e w' => ∃ v0_ v1_ v2_ : Value, e = .returned (.agg #[v0_, v1_, v2_]) ∧ Kd.R (Kd.int .i64) 3 w' w.heap.size (fun k_ => some k_ ≠ (v1_ : Value).ownBlock ∧ some k_ ≠ (v2_ : Value).ownBlock) v0_ r1 ∧ Kd.R (Kd.int .i64) 3 w' w.heap.size (fun k_ => some k_ ≠ (v0_ : Value).ownBlock ∧ some k_ ≠ (v2_ : Value).ownBlock) v1_ r2 ∧ Kd.R (Kd.int .i64) 3 w' w.heap.size (fun k_ => some k_ ≠ (v0_ : Value).ownBlock ∧ some k_ ≠ (v1_ : Value).ownBlock) v2_ r3 ∧ Below w.heap.size w w' := by
 have hu40 := Try.underlying40
 have HB := Aside0.mk (Below.refl w.heap.size w)
 have H : (if 0 ≤ a0 then (if (a0 : Int).toNat ≤ 35184372088832 then (some ((List.replicate (a0 : Int).toNat 0), (List.replicate (a0 : Int).toNat 0), (List.replicate (a0 : Int).toNat 0))) else (none)) else (none)) = some (r1, r2, r3) := h
 clear h
 by_cases c2 : 0 ≤ a0
 ·rw [if_pos c2] at H
  have c2b0 := eq_true c2
  have c2b1 := decide_eq_true c2
  clear c2
  by_cases c3 : (a0 : Int).toNat ≤ 35184372088832
  ·rw [if_pos c3] at H
   have c3b0 := eq_true c3
   have c3b1 := decide_eq_true c3
   clear c3
   obtain ⟨y131, hy131⟩ : ∃ y_ : List Int, y_ = (List.replicate (a0 : Int).toNat 0) := ⟨_, rfl⟩
   replace H : (some (y131, (List.replicate (a0 : Int).toNat 0), (List.replicate (a0 : Int).toNat 0))) = some (r1, r2, r3) := by first | (rw [hy131]; with_reducible exact H) | (have H2_ := (Option.bind_some _ _).symm.trans H; rw [hy131]; with_reducible exact H2_) | (have H2_ := (Option.bind_some _ _).symm.trans H; with_reducible exact H2_) | with_reducible exact H | (rw [hy131]; exact H) | exact H
   have Ny131 := Aside0.mk hy131
   clear hy131
   obtain ⟨y134, hy134⟩ : ∃ y_ : List Int, y_ = (List.replicate (a0 : Int).toNat 0) := ⟨_, rfl⟩
   replace H : (some (y131, y134, (List.replicate (a0 : Int).toNat 0))) = some (r1, r2, r3) := by first | (rw [hy134]; with_reducible exact H) | (have H2_ := (Option.bind_some _ _).symm.trans H; rw [hy134]; with_reducible exact H2_) | (have H2_ := (Option.bind_some _ _).symm.trans H; with_reducible exact H2_) | with_reducible exact H | (rw [hy134]; exact H) | exact H
   have Ny134 := Aside0.mk hy134
   clear hy134
   obtain ⟨y137, hy137⟩ : ∃ y_ : List Int, y_ = (List.replicate (a0 : Int).toNat 0) := ⟨_, rfl⟩
   replace H : (some (y131, y134, y137)) = some (r1, r2, r3) := by first | (rw [hy137]; with_reducible exact H) | (have H2_ := (Option.bind_some _ _).symm.trans H; rw [hy137]; with_reducible exact H2_) | (have H2_ := (Option.bind_some _ _).symm.trans H; with_reducible exact H2_) | with_reducible exact H | (rw [hy137]; exact H) | exact H
   have Ny137 := Aside0.mk hy137
   clear hy137
   simp only [Option.some.injEq, Prod.mk.injEq] at H
   obtain ⟨rfl, rfl, rfl⟩ := H
   go_enter Try.func91, Try.ntmps91
   try go_wp2_with (first | (refine gB 2 #[.slice none 0 0, .slice none 0 0, .slice none 0 0] 40 ?_; intro gb130 hg w4 BK130 hb; have GW130 := bG HB hg; replace HB := bS HB hb; clear hb hg))
   replace BK130 := Aside0.mk (blk_drew BK130.out)
   replace HB := Aside0.mk (below_drew1 HB.out)
   refine start_ (n := 8) (S := fun w' => True) (ds := []) #[false, false, false, false, false, false, false, false] (by kernel_rfl) rfl rfl trivial (fun hHeld => ?_); refine with_tabW spec_l13Row.tab1 spec_l13Row.bits1 (fun HT_ HW_ => ?_)
   generalize w4.drew = w5 at BK130 HB hHeld ⊢
   refine pI 0 (some 3) HT_.out ?_
   refine pI 2 (some 5) HT_.out ?_
   refine pI 4 (some 7) HT_.out ?_
   refine join_ (σ := Value × Value × Value) 2 #[true, true, true, true, true, true, false, false] (fun s_ => [(4, s_.1), (6, s_.2.1), (8, s_.2.2)]) (fun s_ w' => (Kd.R (Kd.int .i64) 3 w' w.heap.size (fun k_ => some k_ ≠ (s_.2.1 : Value).ownBlock ∧ some k_ ≠ (s_.2.2 : Value).ownBlock) s_.1 y131) ∧ (Kd.R (Kd.int .i64) 3 w' w.heap.size (fun k_ => some k_ ≠ (s_.1 : Value).ownBlock ∧ some k_ ≠ (s_.2.2 : Value).ownBlock) s_.2.1 y134) ∧ (Kd.R (Kd.int .i64) 3 w' w.heap.size (fun k_ => some k_ ≠ (s_.1 : Value).ownBlock ∧ some k_ ≠ (s_.2.1 : Value).ownBlock) s_.2.2 y137) ∧ (w'.heap[gb130]? = some (.cells #[.slice none 0 0, .slice none 0 0, .slice none 0 0] 40 (0, 0))) ∧ (Below w.heap.size w w')) ?_ ?_
   rotate_left
   ·intro hJ1_3_5
    refine join_ (σ := Value × Value) 3 #[true, true, true, true, true, false, false, false] (fun s_ => [(4, s_.1), (6, s_.2)]) (fun s_ w' => (Kd.R (Kd.int .i64) 3 w' w.heap.size (fun k_ => some k_ ≠ (s_.2 : Value).ownBlock) s_.1 y131) ∧ (Kd.R (Kd.int .i64) 3 w' w.heap.size (fun k_ => some k_ ≠ (s_.1 : Value).ownBlock) s_.2 y134) ∧ (w'.heap[gb130]? = some (.cells #[.slice none 0 0, .slice none 0 0, .slice none 0 0] 40 (0, 0))) ∧ (Below w.heap.size w w')) ?_ ?_
    rotate_left
    ·intro hJ1_3
     refine join_ (σ := Value × Value) 3 #[true, true, true, false, true, true, false, false] (fun s_ => [(4, s_.1), (8, s_.2)]) (fun s_ w' => (Kd.R (Kd.int .i64) 3 w' w.heap.size (fun k_ => some k_ ≠ (s_.2 : Value).ownBlock) s_.1 y131) ∧ (Kd.R (Kd.int .i64) 3 w' w.heap.size (fun k_ => some k_ ≠ (s_.1 : Value).ownBlock) s_.2 y137) ∧ (w'.heap[gb130]? = some (.cells #[.slice none 0 0, .slice none 0 0, .slice none 0 0] 40 (0, 0))) ∧ (Below w.heap.size w w')) ?_ ?_
     rotate_left
     ·intro hJ1_5
      refine join_ (σ := Value × Value) 3 #[true, false, true, true, true, true, false, false] (fun s_ => [(6, s_.1), (8, s_.2)]) (fun s_ w' => (Kd.R (Kd.int .i64) 3 w' w.heap.size (fun k_ => some k_ ≠ (s_.2 : Value).ownBlock) s_.1 y134) ∧ (Kd.R (Kd.int .i64) 3 w' w.heap.size (fun k_ => some k_ ≠ (s_.1 : Value).ownBlock) s_.2 y137) ∧ (w'.heap[gb130]? = some (.cells #[.slice none 0 0, .slice none 0 0, .slice none 0 0] 40 (0, 0))) ∧ (Below w.heap.size w w')) ?_ ?_
      rotate_left
      ·intro hJ3_5
       refine join_ (σ := Value) 4 #[true, true, true, false, true, false, false, false] (fun s_ => [(4, s_)]) (fun s_ w' => (Kd.R (Kd.int .i64) 3 w' w.heap.size (fun _ => True) s_ y131) ∧ (w'.heap[gb130]? = some (.cells #[.slice none 0 0, .slice none 0 0, .slice none 0 0] 40 (0, 0))) ∧ (Below w.heap.size w w')) ?_ ?_
       rotate_left
       ·intro hJ1
        refine join_ (σ := Value) 4 #[true, false, true, true, true, false, false, false] (fun s_ => [(6, s_)]) (fun s_ w' => (Kd.R (Kd.int .i64) 3 w' w.heap.size (fun _ => True) s_ y134) ∧ (w'.heap[gb130]? = some (.cells #[.slice none 0 0, .slice none 0 0, .slice none 0 0] 40 (0, 0))) ∧ (Below w.heap.size w w')) ?_ ?_
        rotate_left
        ·intro hJ3
         refine join_ (σ := Value) 4 #[true, false, true, false, true, true, false, false] (fun s_ => [(8, s_)]) (fun s_ w' => (Kd.R (Kd.int .i64) 3 w' w.heap.size (fun _ => True) s_ y137) ∧ (w'.heap[gb130]? = some (.cells #[.slice none 0 0, .slice none 0 0, .slice none 0 0] 40 (0, 0))) ∧ (Below w.heap.size w w')) ?_ ?_
         rotate_left
         ·intro hJ5
          refine three_ (i := 1) (j := 3) (k := 5) (Ni := some 4) (Nj := some 6) (Nk := some 8) #[true, true, true, false, true, false, false, false] #[true, false, true, true, true, false, false, false] #[true, false, true, false, true, true, false, false] rfl rfl rfl rfl rfl rfl (three_of HT_.out (by kernel_rfl)) (by decide) (by decide) (by decide) (fun K hK => ?_) (fun K hK => ?_) (fun K hK => ?_)
          ·skip
           refine Kd.R_make_step (Kd.int .i64) _ 3 (by rfl) (N := 4) rfl 22 _ _ rfl a0 rfl rfl Try.underlying22 (.int .i64 0) 8 info3 rfl (by decide) (by omega) 0 (ok := fun _ => True) (okp := fun _ => True) rfl (fun _ hk => hk) trivial (of_decide_eq_true (by first | (with_reducible assumption) | assumption)) (Nat.le_trans (Nat.mul_le_mul_right _ (of_decide_eq_true (by first | (with_reducible assumption) | assumption) : a0.toNat ≤ 35184372088832)) (by omega)) (Below.refl _ _) (Nat.le_refl _) ?_
           intro v132 w6 ho7 hb hg_ hnew_
           clear hg_ hnew_
           (first | rw [← Ny131.out] at ho7 | (simp only [Int.reduceToNat] at ho7; rw [← Ny131.out] at ho7))
           have HO133 := Aside0.mk (Kd.R_lower ho7 (below_size (bZ HB)))
           replace BK130 := bB BK130 hb
           replace HB := bS HB hb
           clear hb ho7
           refine hK.out _ _ trivial (fun hHeld => ?_)
           clear hK K
           refine nO (some 4) ?_
           exact norm_ (by first | (simp only [putAll, Act.put, List.setIfInBounds_toArray, List.set_cons_zero, List.set_cons_succ]; done) | (simp only [putAll, Act.put, List.setIfInBounds_toArray, List.set_cons_zero, List.set_cons_succ]; rfl)) (hJ1 (v132) _ ⟨(rP HO133), (bP BK130), (bZ HB)⟩)
          ·skip
           refine Kd.R_make_step (Kd.int .i64) _ 3 (by rfl) (N := 6) rfl 22 _ _ rfl a0 rfl rfl Try.underlying22 (.int .i64 0) 8 info3 rfl (by decide) (by omega) 0 (ok := fun _ => True) (okp := fun _ => True) rfl (fun _ hk => hk) trivial (of_decide_eq_true (by first | (with_reducible assumption) | assumption)) (Nat.le_trans (Nat.mul_le_mul_right _ (of_decide_eq_true (by first | (with_reducible assumption) | assumption) : a0.toNat ≤ 35184372088832)) (by omega)) (Below.refl _ _) (Nat.le_refl _) ?_
           intro v135 w6 ho7 hb hg_ hnew_
           clear hg_ hnew_
           (first | rw [← Ny134.out] at ho7 | (simp only [Int.reduceToNat] at ho7; rw [← Ny134.out] at ho7))
           have HO136 := Aside0.mk (Kd.R_lower ho7 (below_size (bZ HB)))
           replace BK130 := bB BK130 hb
           replace HB := bS HB hb
           clear hb ho7
           refine hK.out _ _ trivial (fun hHeld => ?_)
           clear hK K
           refine nO (some 6) ?_
           exact norm_ (by first | (simp only [putAll, Act.put, List.setIfInBounds_toArray, List.set_cons_zero, List.set_cons_succ]; done) | (simp only [putAll, Act.put, List.setIfInBounds_toArray, List.set_cons_zero, List.set_cons_succ]; rfl)) (hJ3 (v135) _ ⟨(rP HO136), (bP BK130), (bZ HB)⟩)
          ·skip
           refine Kd.R_make_step (Kd.int .i64) _ 3 (by rfl) (N := 8) rfl 22 _ _ rfl a0 rfl rfl Try.underlying22 (.int .i64 0) 8 info3 rfl (by decide) (by omega) 0 (ok := fun _ => True) (okp := fun _ => True) rfl (fun _ hk => hk) trivial (of_decide_eq_true (by first | (with_reducible assumption) | assumption)) (Nat.le_trans (Nat.mul_le_mul_right _ (of_decide_eq_true (by first | (with_reducible assumption) | assumption) : a0.toNat ≤ 35184372088832)) (by omega)) (Below.refl _ _) (Nat.le_refl _) ?_
           intro v138 w6 ho7 hb hg_ hnew_
           clear hg_ hnew_
           (first | rw [← Ny137.out] at ho7 | (simp only [Int.reduceToNat] at ho7; rw [← Ny137.out] at ho7))
           have HO139 := Aside0.mk (Kd.R_lower ho7 (below_size (bZ HB)))
           replace BK130 := bB BK130 hb
           replace HB := bS HB hb
           clear hb ho7
           refine hK.out _ _ trivial (fun hHeld => ?_)
           clear hK K
           refine nO (some 8) ?_
           exact norm_ (by first | (simp only [putAll, Act.put, List.setIfInBounds_toArray, List.set_cons_zero, List.set_cons_succ]; done) | (simp only [putAll, Act.put, List.setIfInBounds_toArray, List.set_cons_zero, List.set_cons_succ]; rfl)) (hJ5 (v138) _ ⟨(rP HO139), (bP BK130), (bZ HB)⟩)
         ·skip
          rintro v138 w8 ⟨h0_, h1_, h2_⟩
          have HO139 : Aside0 (Kd.R (Kd.int .i64) 3 w8 w.heap.size (fun _ => True) v138 y137) := ⟨h0_⟩
          replace BK130 : Aside0 (w8.heap[gb130]? = some (.cells #[.slice none 0 0, .slice none 0 0, .slice none 0 0] 40 (0, 0))) := ⟨h1_⟩
          replace HB : Aside0 (Below w.heap.size w w8) := ⟨h2_⟩
          clear h0_ h1_ h2_
          have hHeld := trivial
          refine norm_ (a' := ?_) ?_ ?_
          rotate_left
          ·simp only [putAll, Act.put, List.setIfInBounds_toArray, List.set_cons_zero, List.set_cons_succ]
           rfl
          refine two_ (i := 1) (j := 3) (Ni := some 4) (Nj := some 6) #[true, true, true, false, true, true, false, false] #[true, false, true, true, true, true, false, false] rfl rfl rfl rfl (two_of HT_.out (by kernel_rfl)) (by decide) (by decide) (fun K hK => ?_) (fun K hK => ?_)
          ·skip
           refine Kd.R_make_step (Kd.int .i64) _ 3 (by rfl) (N := 4) rfl 22 _ _ rfl a0 rfl rfl Try.underlying22 (.int .i64 0) 8 info3 rfl (by decide) (by omega) 0 (ok := fun _ => True) (okp := fun _ => True) rfl (fun _ hk => hk) trivial (of_decide_eq_true (by first | (with_reducible assumption) | assumption)) (Nat.le_trans (Nat.mul_le_mul_right _ (of_decide_eq_true (by first | (with_reducible assumption) | assumption) : a0.toNat ≤ 35184372088832)) (by omega)) (Below.refl _ _) (Nat.le_refl _) ?_
           intro v132 w9 ho10 hb hg_ hnew_
           clear hg_ hnew_
           (first | rw [← Ny131.out] at ho10 | (simp only [Int.reduceToNat] at ho10; rw [← Ny131.out] at ho10))
           have HO133 := Aside0.mk (Kd.R_lower (Kd.R_new' ho10 (Kd.R_lt (rP HO139))) (below_size (bZ HB)))
           replace HO139 := Aside0.mk (Kd.R_elder' (rP HO139) (Kd.R_base ho10) hb)
           replace BK130 := bB BK130 hb
           replace HB := bS HB hb
           clear hb ho10
           refine hK.out _ _ trivial (fun hHeld => ?_)
           clear hK K
           refine nO (some 4) ?_
           exact norm_ (by first | (simp only [putAll, Act.put, List.setIfInBounds_toArray, List.set_cons_zero, List.set_cons_succ]; done) | (simp only [putAll, Act.put, List.setIfInBounds_toArray, List.set_cons_zero, List.set_cons_succ]; rfl)) (hJ1_5 (v132, v138) _ ⟨(by (with_reducible repeat (first | apply Kd.R_alloc | apply Kd.R_drewN | apply Kd.R_drew)); exact Kd.R_mono HO133.out (fun _ hk => hk.2)), (by (with_reducible repeat (first | apply Kd.R_alloc | apply Kd.R_drewN | apply Kd.R_drew)); exact Kd.R_mono HO139.out (fun _ hk => hk.2)), (bP BK130), (bZ HB)⟩)
          ·skip
           refine Kd.R_make_step (Kd.int .i64) _ 3 (by rfl) (N := 6) rfl 22 _ _ rfl a0 rfl rfl Try.underlying22 (.int .i64 0) 8 info3 rfl (by decide) (by omega) 0 (ok := fun _ => True) (okp := fun _ => True) rfl (fun _ hk => hk) trivial (of_decide_eq_true (by first | (with_reducible assumption) | assumption)) (Nat.le_trans (Nat.mul_le_mul_right _ (of_decide_eq_true (by first | (with_reducible assumption) | assumption) : a0.toNat ≤ 35184372088832)) (by omega)) (Below.refl _ _) (Nat.le_refl _) ?_
           intro v135 w9 ho10 hb hg_ hnew_
           clear hg_ hnew_
           (first | rw [← Ny134.out] at ho10 | (simp only [Int.reduceToNat] at ho10; rw [← Ny134.out] at ho10))
           have HO136 := Aside0.mk (Kd.R_lower (Kd.R_new' ho10 (Kd.R_lt (rP HO139))) (below_size (bZ HB)))
           replace HO139 := Aside0.mk (Kd.R_elder' (rP HO139) (Kd.R_base ho10) hb)
           replace BK130 := bB BK130 hb
           replace HB := bS HB hb
           clear hb ho10
           refine hK.out _ _ trivial (fun hHeld => ?_)
           clear hK K
           refine nO (some 6) ?_
           exact norm_ (by first | (simp only [putAll, Act.put, List.setIfInBounds_toArray, List.set_cons_zero, List.set_cons_succ]; done) | (simp only [putAll, Act.put, List.setIfInBounds_toArray, List.set_cons_zero, List.set_cons_succ]; rfl)) (hJ3_5 (v135, v138) _ ⟨(by (with_reducible repeat (first | apply Kd.R_alloc | apply Kd.R_drewN | apply Kd.R_drew)); exact Kd.R_mono HO136.out (fun _ hk => hk.2)), (by (with_reducible repeat (first | apply Kd.R_alloc | apply Kd.R_drewN | apply Kd.R_drew)); exact Kd.R_mono HO139.out (fun _ hk => hk.2)), (bP BK130), (bZ HB)⟩)
        ·skip
         rintro v135 w8 ⟨h0_, h1_, h2_⟩
         have HO136 : Aside0 (Kd.R (Kd.int .i64) 3 w8 w.heap.size (fun _ => True) v135 y134) := ⟨h0_⟩
         replace BK130 : Aside0 (w8.heap[gb130]? = some (.cells #[.slice none 0 0, .slice none 0 0, .slice none 0 0] 40 (0, 0))) := ⟨h1_⟩
         replace HB : Aside0 (Below w.heap.size w w8) := ⟨h2_⟩
         clear h0_ h1_ h2_
         have hHeld := trivial
         refine norm_ (a' := ?_) ?_ ?_
         rotate_left
         ·simp only [putAll, Act.put, List.setIfInBounds_toArray, List.set_cons_zero, List.set_cons_succ]
          rfl
         refine two_ (i := 1) (j := 5) (Ni := some 4) (Nj := some 8) #[true, true, true, true, true, false, false, false] #[true, false, true, true, true, true, false, false] rfl rfl rfl rfl (two_of HT_.out (by kernel_rfl)) (by decide) (by decide) (fun K hK => ?_) (fun K hK => ?_)
         ·skip
          refine Kd.R_make_step (Kd.int .i64) _ 3 (by rfl) (N := 4) rfl 22 _ _ rfl a0 rfl rfl Try.underlying22 (.int .i64 0) 8 info3 rfl (by decide) (by omega) 0 (ok := fun _ => True) (okp := fun _ => True) rfl (fun _ hk => hk) trivial (of_decide_eq_true (by first | (with_reducible assumption) | assumption)) (Nat.le_trans (Nat.mul_le_mul_right _ (of_decide_eq_true (by first | (with_reducible assumption) | assumption) : a0.toNat ≤ 35184372088832)) (by omega)) (Below.refl _ _) (Nat.le_refl _) ?_
          intro v132 w9 ho10 hb hg_ hnew_
          clear hg_ hnew_
          (first | rw [← Ny131.out] at ho10 | (simp only [Int.reduceToNat] at ho10; rw [← Ny131.out] at ho10))
          have HO133 := Aside0.mk (Kd.R_lower (Kd.R_new' ho10 (Kd.R_lt (rP HO136))) (below_size (bZ HB)))
          replace HO136 := Aside0.mk (Kd.R_elder' (rP HO136) (Kd.R_base ho10) hb)
          replace BK130 := bB BK130 hb
          replace HB := bS HB hb
          clear hb ho10
          refine hK.out _ _ trivial (fun hHeld => ?_)
          clear hK K
          refine nO (some 4) ?_
          exact norm_ (by first | (simp only [putAll, Act.put, List.setIfInBounds_toArray, List.set_cons_zero, List.set_cons_succ]; done) | (simp only [putAll, Act.put, List.setIfInBounds_toArray, List.set_cons_zero, List.set_cons_succ]; rfl)) (hJ1_3 (v132, v135) _ ⟨(by (with_reducible repeat (first | apply Kd.R_alloc | apply Kd.R_drewN | apply Kd.R_drew)); exact Kd.R_mono HO133.out (fun _ hk => hk.2)), (by (with_reducible repeat (first | apply Kd.R_alloc | apply Kd.R_drewN | apply Kd.R_drew)); exact Kd.R_mono HO136.out (fun _ hk => hk.2)), (bP BK130), (bZ HB)⟩)
         ·skip
          refine Kd.R_make_step (Kd.int .i64) _ 3 (by rfl) (N := 8) rfl 22 _ _ rfl a0 rfl rfl Try.underlying22 (.int .i64 0) 8 info3 rfl (by decide) (by omega) 0 (ok := fun _ => True) (okp := fun _ => True) rfl (fun _ hk => hk) trivial (of_decide_eq_true (by first | (with_reducible assumption) | assumption)) (Nat.le_trans (Nat.mul_le_mul_right _ (of_decide_eq_true (by first | (with_reducible assumption) | assumption) : a0.toNat ≤ 35184372088832)) (by omega)) (Below.refl _ _) (Nat.le_refl _) ?_
          intro v138 w9 ho10 hb hg_ hnew_
          clear hg_ hnew_
          (first | rw [← Ny137.out] at ho10 | (simp only [Int.reduceToNat] at ho10; rw [← Ny137.out] at ho10))
          have HO139 := Aside0.mk (Kd.R_lower (Kd.R_new' ho10 (Kd.R_lt (rP HO136))) (below_size (bZ HB)))
          replace HO136 := Aside0.mk (Kd.R_elder' (rP HO136) (Kd.R_base ho10) hb)
          replace BK130 := bB BK130 hb
          replace HB := bS HB hb
          clear hb ho10
          refine hK.out _ _ trivial (fun hHeld => ?_)
          clear hK K
          refine nO (some 8) ?_
          exact norm_ (by first | (simp only [putAll, Act.put, List.setIfInBounds_toArray, List.set_cons_zero, List.set_cons_succ]; done) | (simp only [putAll, Act.put, List.setIfInBounds_toArray, List.set_cons_zero, List.set_cons_succ]; rfl)) (hJ3_5 (v135, v138) _ ⟨(by (with_reducible repeat (first | apply Kd.R_alloc | apply Kd.R_drewN | apply Kd.R_drew)); exact Kd.R_mono HO136.out (fun _ hk => hk.2)), (by (with_reducible repeat (first | apply Kd.R_alloc | apply Kd.R_drewN | apply Kd.R_drew)); exact Kd.R_mono HO139.out (fun _ hk => hk.2)), (bP BK130), (bZ HB)⟩)
       ·skip
        rintro v132 w8 ⟨h0_, h1_, h2_⟩
        have HO133 : Aside0 (Kd.R (Kd.int .i64) 3 w8 w.heap.size (fun _ => True) v132 y131) := ⟨h0_⟩
        replace BK130 : Aside0 (w8.heap[gb130]? = some (.cells #[.slice none 0 0, .slice none 0 0, .slice none 0 0] 40 (0, 0))) := ⟨h1_⟩
        replace HB : Aside0 (Below w.heap.size w w8) := ⟨h2_⟩
        clear h0_ h1_ h2_
        have hHeld := trivial
        refine norm_ (a' := ?_) ?_ ?_
        rotate_left
        ·simp only [putAll, Act.put, List.setIfInBounds_toArray, List.set_cons_zero, List.set_cons_succ]
         rfl
        refine two_ (i := 3) (j := 5) (Ni := some 6) (Nj := some 8) #[true, true, true, true, true, false, false, false] #[true, true, true, false, true, true, false, false] rfl rfl rfl rfl (two_of HT_.out (by kernel_rfl)) (by decide) (by decide) (fun K hK => ?_) (fun K hK => ?_)
        ·skip
         refine Kd.R_make_step (Kd.int .i64) _ 3 (by rfl) (N := 6) rfl 22 _ _ rfl a0 rfl rfl Try.underlying22 (.int .i64 0) 8 info3 rfl (by decide) (by omega) 0 (ok := fun _ => True) (okp := fun _ => True) rfl (fun _ hk => hk) trivial (of_decide_eq_true (by first | (with_reducible assumption) | assumption)) (Nat.le_trans (Nat.mul_le_mul_right _ (of_decide_eq_true (by first | (with_reducible assumption) | assumption) : a0.toNat ≤ 35184372088832)) (by omega)) (Below.refl _ _) (Nat.le_refl _) ?_
         intro v135 w9 ho10 hb hg_ hnew_
         clear hg_ hnew_
         (first | rw [← Ny134.out] at ho10 | (simp only [Int.reduceToNat] at ho10; rw [← Ny134.out] at ho10))
         have HO136 := Aside0.mk (Kd.R_lower (Kd.R_new' ho10 (Kd.R_lt (rP HO133))) (below_size (bZ HB)))
         replace HO133 := Aside0.mk (Kd.R_elder' (rP HO133) (Kd.R_base ho10) hb)
         replace BK130 := bB BK130 hb
         replace HB := bS HB hb
         clear hb ho10
         refine hK.out _ _ trivial (fun hHeld => ?_)
         clear hK K
         refine nO (some 6) ?_
         exact norm_ (by first | (simp only [putAll, Act.put, List.setIfInBounds_toArray, List.set_cons_zero, List.set_cons_succ]; done) | (simp only [putAll, Act.put, List.setIfInBounds_toArray, List.set_cons_zero, List.set_cons_succ]; rfl)) (hJ1_3 (v132, v135) _ ⟨(by (with_reducible repeat (first | apply Kd.R_alloc | apply Kd.R_drewN | apply Kd.R_drew)); exact Kd.R_mono HO133.out (fun _ hk => hk.2)), (by (with_reducible repeat (first | apply Kd.R_alloc | apply Kd.R_drewN | apply Kd.R_drew)); exact Kd.R_mono HO136.out (fun _ hk => hk.2)), (bP BK130), (bZ HB)⟩)
        ·skip
         refine Kd.R_make_step (Kd.int .i64) _ 3 (by rfl) (N := 8) rfl 22 _ _ rfl a0 rfl rfl Try.underlying22 (.int .i64 0) 8 info3 rfl (by decide) (by omega) 0 (ok := fun _ => True) (okp := fun _ => True) rfl (fun _ hk => hk) trivial (of_decide_eq_true (by first | (with_reducible assumption) | assumption)) (Nat.le_trans (Nat.mul_le_mul_right _ (of_decide_eq_true (by first | (with_reducible assumption) | assumption) : a0.toNat ≤ 35184372088832)) (by omega)) (Below.refl _ _) (Nat.le_refl _) ?_
         intro v138 w9 ho10 hb hg_ hnew_
         clear hg_ hnew_
         (first | rw [← Ny137.out] at ho10 | (simp only [Int.reduceToNat] at ho10; rw [← Ny137.out] at ho10))
         have HO139 := Aside0.mk (Kd.R_lower (Kd.R_new' ho10 (Kd.R_lt (rP HO133))) (below_size (bZ HB)))
         replace HO133 := Aside0.mk (Kd.R_elder' (rP HO133) (Kd.R_base ho10) hb)
         replace BK130 := bB BK130 hb
         replace HB := bS HB hb
         clear hb ho10
         refine hK.out _ _ trivial (fun hHeld => ?_)
         clear hK K
         refine nO (some 8) ?_
         exact norm_ (by first | (simp only [putAll, Act.put, List.setIfInBounds_toArray, List.set_cons_zero, List.set_cons_succ]; done) | (simp only [putAll, Act.put, List.setIfInBounds_toArray, List.set_cons_zero, List.set_cons_succ]; rfl)) (hJ1_5 (v132, v138) _ ⟨(by (with_reducible repeat (first | apply Kd.R_alloc | apply Kd.R_drewN | apply Kd.R_drew)); exact Kd.R_mono HO133.out (fun _ hk => hk.2)), (by (with_reducible repeat (first | apply Kd.R_alloc | apply Kd.R_drewN | apply Kd.R_drew)); exact Kd.R_mono HO139.out (fun _ hk => hk.2)), (bP BK130), (bZ HB)⟩)
      ·skip
       rintro ⟨v135, v138⟩ w10 ⟨h0_, h1_, h2_, h3_⟩
       have HO136 : Aside0 (Kd.R (Kd.int .i64) 3 w10 w.heap.size (fun k_ => some k_ ≠ (v138 : Value).ownBlock) v135 y134) := ⟨h0_⟩
       have HO139 : Aside0 (Kd.R (Kd.int .i64) 3 w10 w.heap.size (fun k_ => some k_ ≠ (v135 : Value).ownBlock) v138 y137) := ⟨h1_⟩
       replace BK130 : Aside0 (w10.heap[gb130]? = some (.cells #[.slice none 0 0, .slice none 0 0, .slice none 0 0] 40 (0, 0))) := ⟨h2_⟩
       replace HB : Aside0 (Below w.heap.size w w10) := ⟨h3_⟩
       clear h0_ h1_ h2_ h3_
       have hHeld := trivial
       refine norm_ (a' := ?_) ?_ ?_
       rotate_left
       ·simp only [putAll, Act.put, List.setIfInBounds_toArray, List.set_cons_zero, List.set_cons_succ]
        rfl
       refine oI 1 (some 4) HT_.out (fun K hK => ?_)
       refine Kd.R_make_step (Kd.int .i64) _ 3 (by rfl) (N := 4) rfl 22 _ _ rfl a0 rfl rfl Try.underlying22 (.int .i64 0) 8 info3 rfl (by decide) (by omega) 0 (ok := fun _ => True) (okp := fun _ => True) rfl (fun _ hk => hk) trivial (of_decide_eq_true (by first | (with_reducible assumption) | assumption)) (Nat.le_trans (Nat.mul_le_mul_right _ (of_decide_eq_true (by first | (with_reducible assumption) | assumption) : a0.toNat ≤ 35184372088832)) (by omega)) (Below.refl _ _) (Nat.le_refl _) ?_
       intro v132 w11 ho12 hb hg_ hnew_
       clear hg_ hnew_
       (first | rw [← Ny131.out] at ho12 | (simp only [Int.reduceToNat] at ho12; rw [← Ny131.out] at ho12))
       have HO133 := Aside0.mk (Kd.R_lower (Kd.R_new' (Kd.R_new' ho12 (Kd.R_lt (rP HO136))) (Kd.R_lt (rP HO139))) (below_size (bZ HB)))
       replace HO136 := Aside0.mk (Kd.R_elder' (rP HO136) (Kd.R_base ho12) hb)
       replace HO139 := Aside0.mk (Kd.R_elder' (rP HO139) (Kd.R_base ho12) hb)
       replace BK130 := bB BK130 hb
       replace HB := bS HB hb
       clear hb ho12
       obtain ⟨Ao13, co13, eo13⟩ := Kd.R_slice HO139.out
       (first | subst eo13 | (injection eo13 with f1_ f2_ f3_; have f4_ := f1_.symm; have f5_ := f3_.symm; clear f1_ f2_ f3_; subst f4_; subst f5_))
       obtain ⟨Ao14, co14, eo14⟩ := Kd.R_slice HO136.out
       (first | subst eo14 | (injection eo14 with f1_ f2_ f3_; have f4_ := f1_.symm; have f5_ := f3_.symm; clear f1_ f2_ f3_; subst f4_; subst f5_))
       obtain ⟨Ao15, co15, eo15⟩ := Kd.R_slice HO133.out
       (first | subst eo15 | (injection eo15 with f1_ f2_ f3_; have f4_ := f1_.symm; have f5_ := f3_.symm; clear f1_ f2_ f3_; subst f4_; subst f5_))
       refine hK.out _ _ trivial (fun hHeld => ?_)
       clear hK K
       refine nO (some 4) ?_
       exact norm_ (by first | (simp only [putAll, Act.put, List.setIfInBounds_toArray, List.set_cons_zero, List.set_cons_succ]; done) | (simp only [putAll, Act.put, List.setIfInBounds_toArray, List.set_cons_zero, List.set_cons_succ]; rfl)) (hJ1_3_5 (.slice Ao15 y131.length co15, .slice Ao14 y134.length co14, .slice Ao13 y137.length co13) _ ⟨(by (with_reducible repeat (first | apply Kd.R_alloc | apply Kd.R_drewN | apply Kd.R_drew)); exact Kd.R_mono HO133.out (fun _ hk => ⟨hk.1.2, hk.2⟩)), (by (with_reducible repeat (first | apply Kd.R_alloc | apply Kd.R_drewN | apply Kd.R_drew)); exact Kd.R_mono HO136.out (fun _ hk => ⟨hk.2, hk.1⟩)), (by (with_reducible repeat (first | apply Kd.R_alloc | apply Kd.R_drewN | apply Kd.R_drew)); exact Kd.R_mono HO139.out (fun _ hk => ⟨hk.2, hk.1⟩)), (bP BK130), (bZ HB)⟩)
     ·skip
      rintro ⟨v132, v138⟩ w10 ⟨h0_, h1_, h2_, h3_⟩
      have HO133 : Aside0 (Kd.R (Kd.int .i64) 3 w10 w.heap.size (fun k_ => some k_ ≠ (v138 : Value).ownBlock) v132 y131) := ⟨h0_⟩
      have HO139 : Aside0 (Kd.R (Kd.int .i64) 3 w10 w.heap.size (fun k_ => some k_ ≠ (v132 : Value).ownBlock) v138 y137) := ⟨h1_⟩
      replace BK130 : Aside0 (w10.heap[gb130]? = some (.cells #[.slice none 0 0, .slice none 0 0, .slice none 0 0] 40 (0, 0))) := ⟨h2_⟩
      replace HB : Aside0 (Below w.heap.size w w10) := ⟨h3_⟩
      clear h0_ h1_ h2_ h3_
      have hHeld := trivial
      refine norm_ (a' := ?_) ?_ ?_
      rotate_left
      ·simp only [putAll, Act.put, List.setIfInBounds_toArray, List.set_cons_zero, List.set_cons_succ]
       rfl
      refine oI 3 (some 6) HT_.out (fun K hK => ?_)
      refine Kd.R_make_step (Kd.int .i64) _ 3 (by rfl) (N := 6) rfl 22 _ _ rfl a0 rfl rfl Try.underlying22 (.int .i64 0) 8 info3 rfl (by decide) (by omega) 0 (ok := fun _ => True) (okp := fun _ => True) rfl (fun _ hk => hk) trivial (of_decide_eq_true (by first | (with_reducible assumption) | assumption)) (Nat.le_trans (Nat.mul_le_mul_right _ (of_decide_eq_true (by first | (with_reducible assumption) | assumption) : a0.toNat ≤ 35184372088832)) (by omega)) (Below.refl _ _) (Nat.le_refl _) ?_
      intro v135 w11 ho12 hb hg_ hnew_
      clear hg_ hnew_
      (first | rw [← Ny134.out] at ho12 | (simp only [Int.reduceToNat] at ho12; rw [← Ny134.out] at ho12))
      have HO136 := Aside0.mk (Kd.R_lower (Kd.R_new' (Kd.R_new' ho12 (Kd.R_lt (rP HO133))) (Kd.R_lt (rP HO139))) (below_size (bZ HB)))
      replace HO133 := Aside0.mk (Kd.R_elder' (rP HO133) (Kd.R_base ho12) hb)
      replace HO139 := Aside0.mk (Kd.R_elder' (rP HO139) (Kd.R_base ho12) hb)
      replace BK130 := bB BK130 hb
      replace HB := bS HB hb
      clear hb ho12
      obtain ⟨Ao13, co13, eo13⟩ := Kd.R_slice HO139.out
      (first | subst eo13 | (injection eo13 with f1_ f2_ f3_; have f4_ := f1_.symm; have f5_ := f3_.symm; clear f1_ f2_ f3_; subst f4_; subst f5_))
      obtain ⟨Ao14, co14, eo14⟩ := Kd.R_slice HO136.out
      (first | subst eo14 | (injection eo14 with f1_ f2_ f3_; have f4_ := f1_.symm; have f5_ := f3_.symm; clear f1_ f2_ f3_; subst f4_; subst f5_))
      obtain ⟨Ao15, co15, eo15⟩ := Kd.R_slice HO133.out
      (first | subst eo15 | (injection eo15 with f1_ f2_ f3_; have f4_ := f1_.symm; have f5_ := f3_.symm; clear f1_ f2_ f3_; subst f4_; subst f5_))
      refine hK.out _ _ trivial (fun hHeld => ?_)
      clear hK K
      refine nO (some 6) ?_
      exact norm_ (by first | (simp only [putAll, Act.put, List.setIfInBounds_toArray, List.set_cons_zero, List.set_cons_succ]; done) | (simp only [putAll, Act.put, List.setIfInBounds_toArray, List.set_cons_zero, List.set_cons_succ]; rfl)) (hJ1_3_5 (.slice Ao15 y131.length co15, .slice Ao14 y134.length co14, .slice Ao13 y137.length co13) _ ⟨(by (with_reducible repeat (first | apply Kd.R_alloc | apply Kd.R_drewN | apply Kd.R_drew)); exact Kd.R_mono HO133.out (fun _ hk => ⟨hk.2, hk.1⟩)), (by (with_reducible repeat (first | apply Kd.R_alloc | apply Kd.R_drewN | apply Kd.R_drew)); exact Kd.R_mono HO136.out (fun _ hk => ⟨hk.1.2, hk.2⟩)), (rP HO139), (bP BK130), (bZ HB)⟩)
    ·skip
     rintro ⟨v132, v135⟩ w10 ⟨h0_, h1_, h2_, h3_⟩
     have HO133 : Aside0 (Kd.R (Kd.int .i64) 3 w10 w.heap.size (fun k_ => some k_ ≠ (v135 : Value).ownBlock) v132 y131) := ⟨h0_⟩
     have HO136 : Aside0 (Kd.R (Kd.int .i64) 3 w10 w.heap.size (fun k_ => some k_ ≠ (v132 : Value).ownBlock) v135 y134) := ⟨h1_⟩
     replace BK130 : Aside0 (w10.heap[gb130]? = some (.cells #[.slice none 0 0, .slice none 0 0, .slice none 0 0] 40 (0, 0))) := ⟨h2_⟩
     replace HB : Aside0 (Below w.heap.size w w10) := ⟨h3_⟩
     clear h0_ h1_ h2_ h3_
     have hHeld := trivial
     refine norm_ (a' := ?_) ?_ ?_
     rotate_left
     ·simp only [putAll, Act.put, List.setIfInBounds_toArray, List.set_cons_zero, List.set_cons_succ]
      rfl
     refine oI 5 (some 8) HT_.out (fun K hK => ?_)
     refine Kd.R_make_step (Kd.int .i64) _ 3 (by rfl) (N := 8) rfl 22 _ _ rfl a0 rfl rfl Try.underlying22 (.int .i64 0) 8 info3 rfl (by decide) (by omega) 0 (ok := fun _ => True) (okp := fun _ => True) rfl (fun _ hk => hk) trivial (of_decide_eq_true (by first | (with_reducible assumption) | assumption)) (Nat.le_trans (Nat.mul_le_mul_right _ (of_decide_eq_true (by first | (with_reducible assumption) | assumption) : a0.toNat ≤ 35184372088832)) (by omega)) (Below.refl _ _) (Nat.le_refl _) ?_
     intro v138 w11 ho12 hb hg_ hnew_
     clear hg_ hnew_
     (first | rw [← Ny137.out] at ho12 | (simp only [Int.reduceToNat] at ho12; rw [← Ny137.out] at ho12))
     have HO139 := Aside0.mk (Kd.R_lower (Kd.R_new' (Kd.R_new' ho12 (Kd.R_lt (rP HO133))) (Kd.R_lt (rP HO136))) (below_size (bZ HB)))
     replace HO133 := Aside0.mk (Kd.R_elder' (rP HO133) (Kd.R_base ho12) hb)
     replace HO136 := Aside0.mk (Kd.R_elder' (rP HO136) (Kd.R_base ho12) hb)
     replace BK130 := bB BK130 hb
     replace HB := bS HB hb
     clear hb ho12
     obtain ⟨Ao13, co13, eo13⟩ := Kd.R_slice HO139.out
     (first | subst eo13 | (injection eo13 with f1_ f2_ f3_; have f4_ := f1_.symm; have f5_ := f3_.symm; clear f1_ f2_ f3_; subst f4_; subst f5_))
     obtain ⟨Ao14, co14, eo14⟩ := Kd.R_slice HO136.out
     (first | subst eo14 | (injection eo14 with f1_ f2_ f3_; have f4_ := f1_.symm; have f5_ := f3_.symm; clear f1_ f2_ f3_; subst f4_; subst f5_))
     obtain ⟨Ao15, co15, eo15⟩ := Kd.R_slice HO133.out
     (first | subst eo15 | (injection eo15 with f1_ f2_ f3_; have f4_ := f1_.symm; have f5_ := f3_.symm; clear f1_ f2_ f3_; subst f4_; subst f5_))
     refine hK.out _ _ trivial (fun hHeld => ?_)
     clear hK K
     refine nO (some 8) ?_
     exact norm_ (by first | (simp only [putAll, Act.put, List.setIfInBounds_toArray, List.set_cons_zero, List.set_cons_succ]; done) | (simp only [putAll, Act.put, List.setIfInBounds_toArray, List.set_cons_zero, List.set_cons_succ]; rfl)) (hJ1_3_5 (.slice Ao15 y131.length co15, .slice Ao14 y134.length co14, .slice Ao13 y137.length co13) _ ⟨(rP HO133), (rP HO136), (by (with_reducible repeat (first | apply Kd.R_alloc | apply Kd.R_drewN | apply Kd.R_drew)); exact Kd.R_mono HO139.out (fun _ hk => ⟨hk.1.2, hk.2⟩)), (bP BK130), (bZ HB)⟩)
   rintro ⟨v132, v135, v138⟩ w15 ⟨h0_, h1_, h2_, h3_, h4_⟩
   have HO133 : Aside0 (Kd.R (Kd.int .i64) 3 w15 w.heap.size (fun k_ => some k_ ≠ (v135 : Value).ownBlock ∧ some k_ ≠ (v138 : Value).ownBlock) v132 y131) := ⟨h0_⟩
   have HO136 : Aside0 (Kd.R (Kd.int .i64) 3 w15 w.heap.size (fun k_ => some k_ ≠ (v132 : Value).ownBlock ∧ some k_ ≠ (v138 : Value).ownBlock) v135 y134) := ⟨h1_⟩
   have HO139 : Aside0 (Kd.R (Kd.int .i64) 3 w15 w.heap.size (fun k_ => some k_ ≠ (v132 : Value).ownBlock ∧ some k_ ≠ (v135 : Value).ownBlock) v138 y137) := ⟨h2_⟩
   replace BK130 : Aside0 (w15.heap[gb130]? = some (.cells #[.slice none 0 0, .slice none 0 0, .slice none 0 0] 40 (0, 0))) := ⟨h3_⟩
   replace HB : Aside0 (Below w.heap.size w w15) := ⟨h4_⟩
   clear h0_ h1_ h2_ h3_ h4_
   have hHeld := trivial
   obtain ⟨Ao16, co16, eo16⟩ := Kd.R_slice HO139.out
   (first | subst eo16 | (injection eo16 with f1_ f2_ f3_; have f4_ := f1_.symm; have f5_ := f3_.symm; clear f1_ f2_ f3_; subst f4_; subst f5_))
   obtain ⟨Ao17, co17, eo17⟩ := Kd.R_slice HO136.out
   (first | subst eo17 | (injection eo17 with f1_ f2_ f3_; have f4_ := f1_.symm; have f5_ := f3_.symm; clear f1_ f2_ f3_; subst f4_; subst f5_))
   obtain ⟨Ao18, co18, eo18⟩ := Kd.R_slice HO133.out
   (first | subst eo18 | (injection eo18 with f1_ f2_ f3_; have f4_ := f1_.symm; have f5_ := f3_.symm; clear f1_ f2_ f3_; subst f4_; subst f5_))
   refine norm_ (a' := ?_) ?_ ?_
   rotate_left
   ·simp only [putAll, Act.put, List.setIfInBounds_toArray, List.set_cons_zero, List.set_cons_succ]
    rfl
   refine pI 6 (some 9) HT_.out ?_
   refine oI 7 (none) HT_.out (fun K hK => ?_)
   have hs19 : w15.cell? ⟨gb130, 0, none⟩ = some (.slice none 0 0) := bc BK130 0
   have hfs19 := blk_frozen BK130.out 0
   have hs20 : w15.cell? ⟨gb130, 1, none⟩ = some (.slice none 0 0) := bc BK130 1
   have hfs20 := blk_frozen BK130.out 1
   have hs21 : w15.cell? ⟨gb130, 2, none⟩ = some (.slice none 0 0) := bc BK130 2
   have hfs21 := blk_frozen BK130.out 2
   refine skip_ (w1 := ?_) (by rfl) rfl ?_ ?_
   rotate_left
   ·go_simp
    rfl
   refine hK.out _ _ trivial (fun hHeld => ?_)
   clear hK K
   refine done_ (done_of HT_.out (by kernel_rfl)) ?_
   try go_wp2
   refine rC gb130 40 #[.slice Ao18 y131.length co18, .slice Ao17 y134.length co17, .slice Ao16 y137.length co16] (bU BK130) Try.underlying40 ?_
   exact ⟨_, _, _, by first | rfl | (simp [errW_none, errW_some] <;> rfl) | (simp [*, errW_none, errW_some] <;> rfl), by (with_reducible repeat (first | apply Kd.R_alloc | apply Kd.R_drewN | apply Kd.R_drew)); exact Kd.R_mono (Kd.R_far (p := ⟨gb130, 2, none⟩) (Kd.R_far (p := ⟨gb130, 1, none⟩) (Kd.R_far (p := ⟨gb130, 0, none⟩) (Kd.R_types HO133.out BK130.out (by decide)) (fun _ hk => hk.2) (.slice Ao18 y131.length co18)) (fun _ hk => hk.2) (.slice Ao17 y134.length co17)) (fun _ hk => hk.2) (.slice Ao16 y137.length co16)) (fun _ hk => ⟨hk.1.1, hk.1.2⟩), by (with_reducible repeat (first | apply Kd.R_alloc | apply Kd.R_drewN | apply Kd.R_drew)); exact Kd.R_mono (Kd.R_far (p := ⟨gb130, 2, none⟩) (Kd.R_far (p := ⟨gb130, 1, none⟩) (Kd.R_far (p := ⟨gb130, 0, none⟩) (Kd.R_types HO136.out BK130.out (by decide)) (fun _ hk => hk.2) (.slice Ao18 y131.length co18)) (fun _ hk => hk.2) (.slice Ao17 y134.length co17)) (fun _ hk => hk.2) (.slice Ao16 y137.length co16)) (fun _ hk => ⟨hk.1.1, hk.1.2⟩), by (with_reducible repeat (first | apply Kd.R_alloc | apply Kd.R_drewN | apply Kd.R_drew)); exact Kd.R_mono (Kd.R_far (p := ⟨gb130, 2, none⟩) (Kd.R_far (p := ⟨gb130, 1, none⟩) (Kd.R_far (p := ⟨gb130, 0, none⟩) (Kd.R_types HO139.out BK130.out (by decide)) (fun _ hk => hk.2) (.slice Ao18 y131.length co18)) (fun _ hk => hk.2) (.slice Ao17 y134.length co17)) (fun _ hk => hk.2) (.slice Ao16 y137.length co16)) (fun _ hk => ⟨hk.1.1, hk.1.2⟩), bZ HB⟩
  ·rw [if_neg c3] at H
   exact absurd H (by simp)
 ·rw [if_neg c2] at H
  exact absurd H (by simp)
end Go.Proofs.Ytcnejiflpioaiaa.Pf
end
section
namespace Go.Proofs.Ytcnejiflpioaiaa.Pf
open Go.RowKit Go.Proofs.YtcnejiflpioaiaaW.PrintWords Go.Proofs.YtcnejiflpioaiaaW.PrintLast Go.Proofs.YtcnejiflpioaiaaW.PrintMore
attribute [local go_sem] max2_int min2_int max_two min_two max_three min_three max_four min_four   -- for this text's walks alone
set_option linter.unusedVariables false
set_option linter.unusedSimpArgs false
mutual
def spec_CountSystem.l0 : Nat → Int → Int → Int → Int → List (S40) → Option (Int × Int × (List (S40)))
 | 0, _, _, _, _, _ => none
 | k + 1, x1, x3, x142000, x142001, x142002 => if x3 < 8 then ((spec_l13Row.f x1).bind fun bt142 => (if 0 ≤ (wrap64 (3 + x3)) then (if (wrap64 (3 + x3)) < (bt142.1.length : Int) then (if (wrap64 (3 + x3)) < (bt142.2.1.length : Int) then (if (wrap64 (3 + x3)) < (bt142.2.2.length : Int) then (if x142002.length < 1954687338268 then (spec_CountSystem.l0 k x1 (wrap64 (x3 + 1)) x142000 x142001 (x142002 ++ [(⟨(bt142.1.set ((wrap64 (3 + x3)) : Int).toNat 1), (bt142.2.1.set ((wrap64 (3 + x3)) : Int).toNat 1), (bt142.2.2.set ((wrap64 (3 + x3)) : Int).toNat 1)⟩ : S40)])) else (none)) else (none)) else (none)) else (none)) else (none))) else ((spec_l13Row.f x1).bind fun bt158 => ((spec_l13Row.f x1).bind fun bt168 => (if 0 < (bt158.1.length : Int) then (if 0 < (bt168.1.length : Int) then (spec_CountSystem.l1 k 0 x142000 x142001 x142002 (bt158.1.set (0 : Int).toNat 1) bt158.2.1 bt158.2.2 (bt168.1.set (0 : Int).toNat 1) bt168.2.1 bt168.2.2) else (none)) else (none))))
def spec_CountSystem.l1 : Nat → Int → Int → Int → List (S40) → List Int → List Int → List Int → List Int → List Int → List Int → Option (Int × Int × (List (S40)))
 | 0, _, _, _, _, _, _, _, _, _, _ => none
 | k + 1, x7, x142000, x142001, x142002, x168000, x168001, x168002, x178000, x178001, x178002 => if x7 < 8 then (if 0 ≤ (IntKind.u64.wrap (x7)) then (if 0 ≤ (wrap64 (3 + x7)) then (if (wrap64 (3 + x7)) < (x168001.length : Int) then (if (wrap64 (3 + x7)) < (x178001.length : Int) then (spec_CountSystem.l1 k (wrap64 (x7 + 1)) x142000 x142001 x142002 x168000 (x168001.set ((wrap64 (3 + x7)) : Int).toNat (shl .i64 1 (IntKind.u64.wrap (x7)))) x168002 x178000 (x178001.set ((wrap64 (3 + x7)) : Int).toNat 1) x178002) else (none)) else (none)) else (none)) else (none)) else (if 1 < (x168002.length : Int) then (if 2 < (x178002.length : Int) then ((some (([(⟨x168000, x168001, (x168002.set (1 : Int).toNat 1)⟩ : S40), (⟨x178000, x178001, (x178002.set (2 : Int).toNat 1)⟩ : S40)] : List (S40)) : List (S40))).bind fun y184 => (if x142002.length + y184.length < 1954687338268 then (some (x142000, x142001, (x142002 ++ y184))) else (none))) else (none)) else (none))
end
def spec_CountSystem.f (k : Nat)  : Option (Int × Int × (List (S40))) := spec_CountSystem.l0 k 11 0 11 2 ([] : List (S40))
theorem spec_CountSystem.mono_l : ∀ k, (∀ y0 y1 y2 y3 y4, LeO (spec_CountSystem.l0 k y0 y1 y2 y3 y4) (spec_CountSystem.l0 (k + 1) y0 y1 y2 y3 y4)) ∧ (∀ y0 y1 y2 y3 y4 y5 y6 y7 y8 y9, LeO (spec_CountSystem.l1 k y0 y1 y2 y3 y4 y5 y6 y7 y8 y9) (spec_CountSystem.l1 (k + 1) y0 y1 y2 y3 y4 y5 y6 y7 y8 y9))
 | 0 => ⟨fun _ _ _ _ _ r h => by simp [spec_CountSystem.l0] at h, fun _ _ _ _ _ _ _ _ _ _ r h => by simp [spec_CountSystem.l1] at h⟩
 | k + 1 => by
  obtain ⟨ih0, ih1⟩ := spec_CountSystem.mono_l k
  refine ⟨?_, ?_⟩
  ·intro y0 y1 y2 y3 y4
   unfold spec_CountSystem.l0
   with_reducible repeat' first | exact ih0 _ _ _ _ _ | exact ih1 _ _ _ _ _ _ _ _ _ _ | exact LeO.refl _ | exact LeO.none _ | refine LeO.ite ?_ ?_ | refine LeO.bind ?_ (fun _ => ?_)
  ·intro y0 y1 y2 y3 y4 y5 y6 y7 y8 y9
   unfold spec_CountSystem.l1
   with_reducible repeat' first | exact ih0 _ _ _ _ _ | exact ih1 _ _ _ _ _ _ _ _ _ _ | exact LeO.refl _ | exact LeO.none _ | refine LeO.ite ?_ ?_ | refine LeO.bind ?_ (fun _ => ?_)
theorem spec_CountSystem.mono : ∀ k, LeO (spec_CountSystem.f k ) (spec_CountSystem.f (k + 1) ) := by
 intro  k
 obtain ⟨ih0, ih1⟩ := spec_CountSystem.mono_l k
 unfold spec_CountSystem.f
 with_reducible repeat' first | exact ih0 _ _ _ _ _ | exact ih1 _ _ _ _ _ _ _ _ _ _ | exact LeO.refl _ | exact LeO.none _ | refine LeO.ite ?_ ?_ | refine LeO.bind ?_ (fun _ => ?_)
set_option maxHeartbeats 8000000 in
set_option maxRecDepth 100000 in
theorem spec_CountSystem.calls (k : Nat)  (r1 : Int) (r2 : Int) (r3 : List (S40)) (w : World) (h : spec_CountSystem.f k  = some (r1, r2, r3)) :
  Calls Try.prog 88 #[] w fun e w' => ∃ v2_ : Value, e = .returned (.agg #[.int .i64 r1, .int .i64 r2, v2_]) ∧ Kd.N k40 40 w' w.heap.size (fun k_ => (w.heap.size ≤ k_)) v2_ r3 ∧ Below w.heap.size w w' := by
 have hu32 := Try.underlying32
 have hu40 := Try.underlying40
 have HB := Aside0.mk (Below.refl w.heap.size w)
 have H : (spec_CountSystem.l0 k 11 0 11 2 ([] : List (S40))) = some (r1, r2, r3) := h
 clear h
 have H' := Aside0.mk H
 clear H
 go_enter Try.func88, Try.ntmps88
 go_wp2_with (first | (refine gB 0 #[.int .i64 0, .int .i64 0, .slice none 0 0] 32 ?_; intro gb140 hg w1 BK140 hb; have GW140 := bG HB hg; replace HB := bS HB hb; clear hb hg) | (refine gB 2 #[.int .i64 0, .int .i64 0, .slice none 0 0] 32 ?_; intro gb141 hg w2 BK141 hb; have GW141 := bG HB hg; replace HB := bS HB hb; obtain ⟨NB140_141, NB141_140⟩ := bN BK140 hg; replace BK140 := bB BK140 hb; clear hb hg; obtain ⟨hnb3, hnc3⟩ := nB NB141_140; obtain ⟨hcz4_0, hcz4_1, hcz4_2, hfz4_0, hfz4_1, hfz4_2⟩ := bK3 (w := w2) BK141))
 go_loopg [3] k (fun kq v3 w' => ∃ (x3_1 : Int) (x142002_1 : List (S40)) (u142002 : Value), v3 = .int .i64 x3_1 ∧ Aside0 (spec_CountSystem.l0 kq 11 x3_1 11 2 x142002_1 = some (r1, r2, r3)) ∧ Aside0 (kq ≤ k) ∧ Aside0 (Kd.N k40 40 w' w.heap.size (fun k_ => (w.heap.size ≤ k_) ∧ k_ ≠ gb140 ∧ k_ ≠ gb141) u142002 x142002_1) ∧ Aside0 (w'.heap[gb140]? = some (.cells #[.int .i64 0, .int .i64 0, (.slice none 0 0)] 32 (0, 0))) ∧ Aside0 (w'.heap[gb141]? = some (.cells #[.int .i64 11, .int .i64 2, u142002] 32 (0, 0))) ∧ Aside0 (Below w.heap.size w w'))
 case atStart => exact ⟨(0), (([] : List (S40))), (.slice none 0 0), rS, H', ⟨Nat.le_refl _⟩, ⟨by first | exact Kd.S_nil _ _ _ _ _ | exact Kd.N_nil _ _ _ _ _ | exact Kd.V_nil _ _ _ _ _ | exact Kd.Q_nil _ _ _ _ _ | exact Kd.R_nil _ _ _ _ _⟩, ⟨bP BK140⟩, ⟨bU BK141⟩, ⟨bZ HB⟩⟩
 case round =>
  clear H'
  try clear p2
  try clear c3
  try clear hcz4_0
  try clear hcz4_1
  try clear hcz4_2
  try clear hfz4_0
  try clear hfz4_1
  try clear hfz4_2
  obtain ⟨x3_1, x142002_1, u142002, rfl, HA, HK1, HO_142002, BK140, BK141, HB⟩ := hrel
  cases gk with
  | zero => exact absurd HA.out (by simp [spec_CountSystem.l0])
  | succ k1 =>
   have H := HA.out
   clear HA
   simp only [spec_CountSystem.l0] at H
   by_cases c5 : x3_1 < 8
   ·rw [if_pos c5] at H
    have c5b0 := decide_eq_true c5
    clear c5
    replace H := Option.bind_eq_some_iff.mp H
    obtain ⟨⟨t142, t145, t148⟩, A60, H⟩ := H
    have A6 := Aside0.mk A60
    clear A60
    obtain ⟨ji7, hji7⟩ : ∃ j_ : Int, (wrap64 (3 + x3_1)) = j_ := ⟨_, rfl⟩
    replace H : (if 0 ≤ (ji7) then (if (ji7) < (t142.length : Int) then (if (ji7) < (t145.length : Int) then (if (ji7) < (t148.length : Int) then (if x142002_1.length < 1954687338268 then (spec_CountSystem.l0 k1 11 (wrap64 (x3_1 + 1)) 11 2 (x142002_1 ++ [(⟨(t142.set ((ji7) : Int).toNat 1), (t145.set ((ji7) : Int).toNat 1), (t148.set ((ji7) : Int).toNat 1)⟩ : S40)])) else (none)) else (none)) else (none)) else (none)) else (none)) = some (r1, r2, r3) := by first | (rw [hji7] at H; exact H) | (simp only [hji7] at H ⊢; exact H)
    (try rw [hji7] at A6)
    have hji7w : (IntKind.i64.wrap (3 + x3_1)) = ji7 := (i64_w _).trans hji7
    by_cases c8 : 0 ≤ (ji7)
    ·rw [if_pos c8] at H
     have c8b0 := decide_eq_true c8
     clear c8
     by_cases c9 : (ji7) < (t142.length : Int)
     ·rw [if_pos c9] at H
      have c9b0 := decide_eq_true c9
      clear c9
      obtain ⟨y152, hy152⟩ : ∃ y_ : List Int, y_ = (t142.set ((ji7) : Int).toNat 1) := ⟨_, rfl⟩
      replace H : (if (ji7) < (t145.length : Int) then (if (ji7) < (t148.length : Int) then (if x142002_1.length < 1954687338268 then (spec_CountSystem.l0 k1 11 (wrap64 (x3_1 + 1)) 11 2 (x142002_1 ++ [(⟨y152, (t145.set ((ji7) : Int).toNat 1), (t148.set ((ji7) : Int).toNat 1)⟩ : S40)])) else (none)) else (none)) else (none)) = some (r1, r2, r3) := by first | (rw [hy152]; with_reducible exact H) | (have H2_ := (Option.bind_some _ _).symm.trans H; rw [hy152]; with_reducible exact H2_) | (have H2_ := (Option.bind_some _ _).symm.trans H; with_reducible exact H2_) | with_reducible exact H | (rw [hy152]; exact H) | exact H
      have Ny152 := Aside0.mk hy152
      clear hy152
      by_cases c11 : (ji7) < (t145.length : Int)
      ·rw [if_pos c11] at H
       have c11b0 := decide_eq_true c11
       clear c11
       obtain ⟨y153, hy153⟩ : ∃ y_ : List Int, y_ = (t145.set ((ji7) : Int).toNat 1) := ⟨_, rfl⟩
       replace H : (if (ji7) < (t148.length : Int) then (if x142002_1.length < 1954687338268 then (spec_CountSystem.l0 k1 11 (wrap64 (x3_1 + 1)) 11 2 (x142002_1 ++ [(⟨y152, y153, (t148.set ((ji7) : Int).toNat 1)⟩ : S40)])) else (none)) else (none)) = some (r1, r2, r3) := by first | (rw [hy153]; with_reducible exact H) | (have H2_ := (Option.bind_some _ _).symm.trans H; rw [hy153]; with_reducible exact H2_) | (have H2_ := (Option.bind_some _ _).symm.trans H; with_reducible exact H2_) | with_reducible exact H | (rw [hy153]; exact H) | exact H
       have Ny153 := Aside0.mk hy153
       clear hy153
       by_cases c13 : (ji7) < (t148.length : Int)
       ·rw [if_pos c13] at H
        have c13b0 := decide_eq_true c13
        clear c13
        obtain ⟨y154, hy154⟩ : ∃ y_ : List Int, y_ = (t148.set ((ji7) : Int).toNat 1) := ⟨_, rfl⟩
        replace H : (if x142002_1.length < 1954687338268 then (spec_CountSystem.l0 k1 11 (wrap64 (x3_1 + 1)) 11 2 (x142002_1 ++ [(⟨y152, y153, y154⟩ : S40)])) else (none)) = some (r1, r2, r3) := by first | (rw [hy154]; with_reducible exact H) | (have H2_ := (Option.bind_some _ _).symm.trans H; rw [hy154]; with_reducible exact H2_) | (have H2_ := (Option.bind_some _ _).symm.trans H; with_reducible exact H2_) | with_reducible exact H | (rw [hy154]; exact H) | exact H
        have Ny154 := Aside0.mk hy154
        clear hy154
        by_cases c15 : x142002_1.length < 1954687338268
        ·rw [if_pos c15] at H
         have LMc15 := Aside0.mk c15
         clear c15
         obtain ⟨y155, hy155⟩ : ∃ y_ : List (S40), y_ = (x142002_1 ++ [(⟨y152, y153, y154⟩ : S40)]) := ⟨_, rfl⟩
         replace H : (spec_CountSystem.l0 k1 11 (wrap64 (x3_1 + 1)) 11 2 y155) = some (r1, r2, r3) := by first | (rw [hy155]; with_reducible exact H) | (have H2_ := (Option.bind_some _ _).symm.trans H; rw [hy155]; with_reducible exact H2_) | (have H2_ := (Option.bind_some _ _).symm.trans H; with_reducible exact H2_) | with_reducible exact H | (rw [hy155]; exact H) | exact H
         have Ny155 := Aside0.mk hy155
         clear hy155
         have H' := Aside0.mk H
         clear H
         go_wp2_with (first | (refine gC (some 15) Try.func91 #[.int .i64 11] ?_; (with_reducible refine (spec_l13Row.calls 11 t142 t145 t148 _ A6.out).mono ?_); rintro e w16 ⟨v143, v146, v149, rfl, ho0, ho1, ho2, hb⟩; refine ⟨_, rfl, ?_⟩; replace HO_142002 := Aside0.mk (Kd.N_mono (Kd.N_told (Kd.N_told (Kd.N_told (Kd.N_old (by (with_reducible repeat (first | apply Kd.N_alloc | apply Kd.N_drewN | apply Kd.N_drew)); exact HO_142002.out) hb) (Kd.R_base ho0)) (Kd.R_base ho1)) (Kd.R_base ho2)) (fun _ h_ => h_.1)); have HO144 := Aside0.mk (Kd.R_lower (Kd.R_newM (M := fun k_ => (w.heap.size ≤ k_)) ho0 (below_size (bZ HB)) (fun k_ h_ => h_)) (below_size (bZ HB))); have HO147 := Aside0.mk (Kd.R_lower (Kd.R_newM (M := fun k_ => (w.heap.size ≤ k_)) ho1 (below_size (bZ HB)) (fun k_ h_ => h_)) (below_size (bZ HB))); have HO150 := Aside0.mk (Kd.R_lower (Kd.R_newM (M := fun k_ => (w.heap.size ≤ k_)) ho2 (below_size (bZ HB)) (fun k_ h_ => h_)) (below_size (bZ HB))); replace BK140 := bB BK140 hb; replace BK141 := bB BK141 hb; replace HB := bS HB hb; (try clear hb); (try clear ho0); (try clear ho1); (try clear ho2)) | ((with_reducible refine gate_dst (N := 4) rfl ?_); refine bE 4 #[.slice none 0 0, .slice none 0 0, .slice none 0 0] 40 ?_; intro gb151 hg w17 hbox hb; replace HO_142002 := Aside0.mk (Kd.N_below (Kd.N_elderB (by (with_reducible repeat (first | apply Kd.N_alloc | apply Kd.N_drewN | apply Kd.N_drew)); exact HO_142002.out) gb151 (Nat.le_of_eq hg.symm)) hb); replace HO144 := Aside0.mk (Kd.R_below (rP HO144) hb); replace HO147 := Aside0.mk (Kd.R_below (rP HO147) hb); replace HO150 := Aside0.mk (Kd.R_below (rP HO150) hb); have BK151 := Aside0.mk (hbox); have GW151 := bG HB hg; replace HB := bS HB hb; obtain ⟨NB140_151, NB151_140⟩ := bN BK140 hg; replace BK140 := bB BK140 hb; obtain ⟨NB141_151, NB151_141⟩ := bN BK141 hg; replace BK141 := bB BK141 hb; clear hb hbox hg; obtain ⟨Ao18, co18, eo18⟩ := Kd.R_slice HO144.out; subst eo18; obtain ⟨hnb19, hnc19⟩ := nB NB151_140; obtain ⟨hnb20, hnc20⟩ := nB NB151_141; obtain ⟨hcz21_0, hcz21_1, hcz21_2, hfz21_0, hfz21_1, hfz21_2⟩ := bK3 (w := w17) BK151; obtain ⟨Ao22, co22, eo22⟩ := Kd.R_slice HO147.out; subst eo22; obtain ⟨Ao23, co23, eo23⟩ := Kd.R_slice HO150.out; subst eo23) | ((with_reducible refine gate_store (t := 40) (p := 4) rfl ?_); refine store_event (t := 40) (p := 4) (v := ?vo_w24) (w1 := (((w17.setCell ⟨gb151, 0, none⟩ (.slice Ao18 t142.length co18)).setCell ⟨gb151, 1, none⟩ (.slice Ao22 t145.length co22)).setCell ⟨gb151, 2, none⟩ (.slice Ao23 t148.length co23))) ?hg ?ho ?hn ?hr ?_; (case ho => rfl); (case hg => rfl); (case hn => rfl); (case hr => first | (go_simp; done) | (go_simp; rfl)); intro w24 hw; replace HO_142002 : Aside0 (Kd.N k40 40 w24 w.heap.size (fun k_ => (w.heap.size ≤ k_) ∧ some k_ ≠ (.slice Ao18 t142.length co18 : Value).ownBlock ∧ some k_ ≠ (.slice Ao22 t145.length co22 : Value).ownBlock ∧ some k_ ≠ (.slice Ao23 t148.length co23 : Value).ownBlock ∧ k_ ≠ gb140 ∧ k_ ≠ gb141 ∧ k_ ≠ gb151) u142002 x142002_1) := ⟨(by rw [hw]; exact (by (with_reducible repeat (first | apply Kd.N_alloc | apply Kd.N_drewN | apply Kd.N_drew)); exact Kd.N_mono (Kd.N_far (p := ⟨gb151, 2, none⟩) (Kd.N_far (p := ⟨gb151, 1, none⟩) (Kd.N_far (p := ⟨gb151, 0, none⟩) (Kd.N_mono HO_142002.out (fun k_ hk => (⟨hk, hk.2⟩ : _ ∧ k_ ≠ gb151))) (fun _ hk => hk.2) (.slice Ao18 t142.length co18)) (fun _ hk => hk.2) (.slice Ao22 t145.length co22)) (fun _ hk => hk.2) (.slice Ao23 t148.length co23)) (fun _ hk => ⟨hk.1.1.1.1.1.1, ⟨hk.1.1.1.1.2, ⟨hk.1.1.1.2, ⟨hk.1.1.2, ⟨hk.1.1.1.1.1.2.1, ⟨hk.1.1.1.1.1.2.2, hk.1.2⟩⟩⟩⟩⟩⟩)))⟩; replace HO144 : Aside0 (Kd.R (Kd.int .i64) 3 w24 w.heap.size (fun k_ => (w.heap.size ≤ k_) ∧ some k_ ≠ (.slice Ao22 t145.length co22 : Value).ownBlock ∧ some k_ ≠ (.slice Ao23 t148.length co23 : Value).ownBlock) (.slice Ao18 t142.length co18) t142) := ⟨(by rw [hw]; exact (by (with_reducible repeat (first | apply Kd.R_alloc | apply Kd.R_drewN | apply Kd.R_drew)); exact Kd.R_mono (Kd.R_far (p := ⟨gb151, 2, none⟩) (Kd.R_far (p := ⟨gb151, 1, none⟩) (Kd.R_far (p := ⟨gb151, 0, none⟩) (Kd.R_types HO144.out BK151.out (by decide)) (fun _ hk => hk.2) (.slice Ao18 t142.length co18)) (fun _ hk => hk.2) (.slice Ao22 t145.length co22)) (fun _ hk => hk.2) (.slice Ao23 t148.length co23)) (fun _ hk => ⟨hk.1.1, ⟨hk.1.2.1, hk.1.2.2⟩⟩)))⟩; replace HO147 : Aside0 (Kd.R (Kd.int .i64) 3 w24 w.heap.size (fun k_ => (w.heap.size ≤ k_) ∧ some k_ ≠ (.slice Ao18 t142.length co18 : Value).ownBlock ∧ some k_ ≠ (.slice Ao23 t148.length co23 : Value).ownBlock) (.slice Ao22 t145.length co22) t145) := ⟨(by rw [hw]; exact (by (with_reducible repeat (first | apply Kd.R_alloc | apply Kd.R_drewN | apply Kd.R_drew)); exact Kd.R_mono (Kd.R_far (p := ⟨gb151, 2, none⟩) (Kd.R_far (p := ⟨gb151, 1, none⟩) (Kd.R_far (p := ⟨gb151, 0, none⟩) (Kd.R_types HO147.out BK151.out (by decide)) (fun _ hk => hk.2) (.slice Ao18 t142.length co18)) (fun _ hk => hk.2) (.slice Ao22 t145.length co22)) (fun _ hk => hk.2) (.slice Ao23 t148.length co23)) (fun _ hk => ⟨hk.1.1, ⟨hk.1.2.1, hk.1.2.2⟩⟩)))⟩; replace HO150 : Aside0 (Kd.R (Kd.int .i64) 3 w24 w.heap.size (fun k_ => (w.heap.size ≤ k_) ∧ some k_ ≠ (.slice Ao18 t142.length co18 : Value).ownBlock ∧ some k_ ≠ (.slice Ao22 t145.length co22 : Value).ownBlock) (.slice Ao23 t148.length co23) t148) := ⟨(by rw [hw]; exact (by (with_reducible repeat (first | apply Kd.R_alloc | apply Kd.R_drewN | apply Kd.R_drew)); exact Kd.R_mono (Kd.R_far (p := ⟨gb151, 2, none⟩) (Kd.R_far (p := ⟨gb151, 1, none⟩) (Kd.R_far (p := ⟨gb151, 0, none⟩) (Kd.R_types HO150.out BK151.out (by decide)) (fun _ hk => hk.2) (.slice Ao18 t142.length co18)) (fun _ hk => hk.2) (.slice Ao22 t145.length co22)) (fun _ hk => hk.2) (.slice Ao23 t148.length co23)) (fun _ hk => ⟨hk.1.1, ⟨hk.1.2.1, hk.1.2.2⟩⟩)))⟩; replace BK140 : Aside0 (w24.heap[gb140]? = some (.cells #[.int .i64 0, .int .i64 0, .slice none 0 0] 32 (0, 0))) := ⟨(by rw [hw]; exact (bP BK140))⟩; replace BK141 : Aside0 (w24.heap[gb141]? = some (.cells #[.int .i64 11, .int .i64 2, u142002] 32 (0, 0))) := ⟨(by rw [hw]; exact (bP BK141))⟩; replace BK151 : Aside0 (w24.heap[gb151]? = some (.cells #[.slice Ao18 t142.length co18, .slice Ao22 t145.length co22, .slice Ao23 t148.length co23] 40 (0, 0))) := ⟨(by rw [hw]; exact (bU BK151))⟩; replace HB : Aside0 (Below w.heap.size w w24) := ⟨(by rw [hw]; exact (bZ HB))⟩; clear hw; obtain ⟨hcz25_0, hcz25_1, hcz25_2, hfz25_0, hfz25_1, hfz25_2⟩ := bK3 (w := w24) BK151; have p10 : 0 ≤ ((ji7) : Int) := of_decide_eq_true (by first | (with_reducible assumption) | assumption); have q10 : ((ji7) : Int) < ((t142.length : Int) : Int) := of_decide_eq_true (by first | (with_reducible assumption) | assumption); obtain ⟨go10, co10, eo10, gb10, gl10, cl10, HG10⟩ := Kd.R_form HO144.out (by omega); (first | cases eo10 | (injection eo10 with ea_ en_ ec_; (first | subst ea_ | (injection ea_ with ea_; subst ea_)); subst ec_; clear en_)); have GB10 := Aside0.mk gb10; have GG10 := Aside0.mk HG10; clear gb10 gl10 HG10; obtain ⟨hx10_0, hf10_0⟩ := Kd.R_celln 0 HO144.out ((ji7) : Int) p10 q10; replace p10 := eq_true p10; replace q10 := eq_true q10; obtain ⟨hy26_, hz26_⟩ := Kd.R_celln 0 HO144.out ((ji7) : Int) (of_decide_eq_true (by first | (with_reducible assumption) | assumption)) (of_decide_eq_true (by first | (with_reducible assumption) | assumption)); have HP26 := Kd.R_putg HO144.out ((ji7) : Int) 1) | ((with_reducible refine gate_store (t := 3) (p := 20) rfl ?_); refine store_event (t := 3) (p := 20) (v := ?vo_w27) (w1 := (w24.setCell ⟨go10, ((ji7) : Int).toNat, none⟩ (.int .i64 1))) ?hg ?ho ?hn ?hr ?_; (case ho => rfl); (case hg => rfl); (case hn => rfl); (case hr => first | (go_simp; done) | (go_simp; rfl)); intro w27 hw; have hg : w24.grownBy w27 (some go10) := (by rw [hw]; exact HP26.2); have hp_ : Kd.R (Kd.int .i64) 3 w27 w.heap.size (fun k_ => (w.heap.size ≤ k_) ∧ some k_ ≠ (.slice Ao22 t145.length co22 : Value).ownBlock ∧ some k_ ≠ (.slice Ao23 t148.length co23 : Value).ownBlock) (.slice (some ⟨go10, 0, none⟩) t142.length co18) y152 := (by rw [hw, Ny152.out]; exact HP26.1); clear HP26; replace HO_142002 := Aside0.mk (Kd.N_afterv (v := (.slice (some ⟨go10, 0, none⟩) t142.length co18)) (v1 := (.slice (some ⟨go10, 0, none⟩) t142.length co18)) (ok := (fun k_ => (w.heap.size ≤ k_) ∧ some k_ ≠ (.slice Ao22 t145.length co22 : Value).ownBlock ∧ some k_ ≠ (.slice Ao23 t148.length co23 : Value).ownBlock ∧ k_ ≠ gb140 ∧ k_ ≠ gb141 ∧ k_ ≠ gb151)) (by (with_reducible repeat (first | apply Kd.N_alloc | apply Kd.N_drewN | apply Kd.N_drew)); exact Kd.N_mono HO_142002.out (fun _ hk => ⟨⟨hk.1, ⟨hk.2.2.1, ⟨hk.2.2.2.1, ⟨hk.2.2.2.2.1, ⟨hk.2.2.2.2.2.1, hk.2.2.2.2.2.2⟩⟩⟩⟩⟩, hk.2.1⟩)) hg (.inl rfl)); replace BK140 := Aside0.mk (blk_grown (bP BK140) hg (Kd.R_ne HO144.out BK140.out (by decide))); replace BK141 := Aside0.mk (blk_grown (bP BK141) hg (Kd.R_ne HO144.out BK141.out (by decide))); replace HO147 := Aside0.mk (Kd.R_after (v := (.slice (some ⟨go10, 0, none⟩) t142.length co18)) (v1 := (.slice (some ⟨go10, 0, none⟩) t142.length co18)) (ok := (fun k_ => (w.heap.size ≤ k_) ∧ some k_ ≠ (.slice Ao23 t148.length co23 : Value).ownBlock)) (by (with_reducible repeat (first | apply Kd.R_alloc | apply Kd.R_drewN | apply Kd.R_drew)); exact Kd.R_mono HO147.out (fun _ hk => ⟨⟨hk.1, hk.2.2⟩, hk.2.1⟩)) hg (.inl rfl)); replace HO150 := Aside0.mk (Kd.R_after (v := (.slice (some ⟨go10, 0, none⟩) t142.length co18)) (v1 := (.slice (some ⟨go10, 0, none⟩) t142.length co18)) (ok := (fun k_ => (w.heap.size ≤ k_) ∧ some k_ ≠ (.slice Ao22 t145.length co22 : Value).ownBlock)) (by (with_reducible repeat (first | apply Kd.R_alloc | apply Kd.R_drewN | apply Kd.R_drew)); exact Kd.R_mono HO150.out (fun _ hk => ⟨⟨hk.1, hk.2.2⟩, hk.2.1⟩)) hg (.inl rfl)); replace BK151 := Aside0.mk (blk_grown (bP BK151) hg (Kd.R_ne HO144.out BK151.out (by decide))); replace HO144 := Aside0.mk (hp_); replace HB := Aside0.mk ((by rw [hw]; exact below_set (HB.out) GB10.out : Below w.heap.size w w27)); clear hg hw hp_; obtain ⟨hcz28_0, hcz28_1, hcz28_2, hfz28_0, hfz28_1, hfz28_2⟩ := bK3 (w := w27) BK151; have p12 : 0 ≤ ((ji7) : Int) := of_decide_eq_true (by first | (with_reducible assumption) | assumption); have q12 : ((ji7) : Int) < ((t145.length : Int) : Int) := of_decide_eq_true (by first | (with_reducible assumption) | assumption); obtain ⟨go12, co12, eo12, gb12, gl12, cl12, HG12⟩ := Kd.R_form HO147.out (by omega); (first | cases eo12 | (injection eo12 with ea_ en_ ec_; (first | subst ea_ | (injection ea_ with ea_; subst ea_)); subst ec_; clear en_)); have GB12 := Aside0.mk gb12; have GG12 := Aside0.mk HG12; clear gb12 gl12 HG12; obtain ⟨hx12_0, hf12_0⟩ := Kd.R_celln 0 HO147.out ((ji7) : Int) p12 q12; replace p12 := eq_true p12; replace q12 := eq_true q12; have n_ := Aside0.mk (Kd.R_mono (ok' := (fun k_ => (w.heap.size ≤ k_) ∧ some k_ ≠ (.slice (some ⟨go10, 0, none⟩) t142.length co18 : Value).ownBlock ∧ some k_ ≠ (.slice Ao23 t148.length co23 : Value).ownBlock)) HO147.out (fun k_ hk => ⟨hk.1.1, ⟨hk.2, hk.1.2⟩⟩)); clear HO147; have HO147 := n_; clear n_; obtain ⟨hy29_, hz29_⟩ := Kd.R_celln 0 HO147.out ((ji7) : Int) (of_decide_eq_true (by first | (with_reducible assumption) | assumption)) (of_decide_eq_true (by first | (with_reducible assumption) | assumption)); have HP29 := Kd.R_putg HO147.out ((ji7) : Int) 1) | ((with_reducible refine gate_store (t := 3) (p := 25) rfl ?_); refine store_event (t := 3) (p := 25) (v := ?vo_w30) (w1 := (w27.setCell ⟨go12, ((ji7) : Int).toNat, none⟩ (.int .i64 1))) ?hg ?ho ?hn ?hr ?_; (case ho => rfl); (case hg => rfl); (case hn => rfl); (case hr => first | (go_simp; done) | (go_simp; rfl)); intro w30 hw; have hg : w27.grownBy w30 (some go12) := (by rw [hw]; exact HP29.2); have hp_ : Kd.R (Kd.int .i64) 3 w30 w.heap.size (fun k_ => (w.heap.size ≤ k_) ∧ some k_ ≠ (.slice (some ⟨go10, 0, none⟩) t142.length co18 : Value).ownBlock ∧ some k_ ≠ (.slice Ao23 t148.length co23 : Value).ownBlock) (.slice (some ⟨go12, 0, none⟩) t145.length co22) y153 := (by rw [hw, Ny153.out]; exact HP29.1); clear HP29; replace HO_142002 := Aside0.mk (Kd.N_afterv (v := (.slice (some ⟨go12, 0, none⟩) t145.length co22)) (v1 := (.slice (some ⟨go12, 0, none⟩) t145.length co22)) (ok := (fun k_ => (w.heap.size ≤ k_) ∧ some k_ ≠ (.slice (some ⟨go10, 0, none⟩) t142.length co18 : Value).ownBlock ∧ some k_ ≠ (.slice Ao23 t148.length co23 : Value).ownBlock ∧ k_ ≠ gb140 ∧ k_ ≠ gb141 ∧ k_ ≠ gb151)) (by (with_reducible repeat (first | apply Kd.N_alloc | apply Kd.N_drewN | apply Kd.N_drew)); exact Kd.N_mono HO_142002.out (fun _ hk => ⟨⟨hk.1.1, ⟨hk.2, ⟨hk.1.2.2.1, ⟨hk.1.2.2.2.1, ⟨hk.1.2.2.2.2.1, hk.1.2.2.2.2.2⟩⟩⟩⟩⟩, hk.1.2.1⟩)) hg (.inl rfl)); replace BK140 := Aside0.mk (blk_grown (bP BK140) hg (Kd.R_ne HO147.out BK140.out (by decide))); replace BK141 := Aside0.mk (blk_grown (bP BK141) hg (Kd.R_ne HO147.out BK141.out (by decide))); replace HO144 := Aside0.mk (Kd.R_after (v := (.slice (some ⟨go12, 0, none⟩) t145.length co22)) (v1 := (.slice (some ⟨go12, 0, none⟩) t145.length co22)) (ok := (fun k_ => (w.heap.size ≤ k_) ∧ some k_ ≠ (.slice Ao23 t148.length co23 : Value).ownBlock)) (by (with_reducible repeat (first | apply Kd.R_alloc | apply Kd.R_drewN | apply Kd.R_drew)); exact Kd.R_mono HO144.out (fun _ hk => ⟨⟨hk.1, hk.2.2⟩, hk.2.1⟩)) hg (.inl rfl)); replace HO150 := Aside0.mk (Kd.R_after (v := (.slice (some ⟨go12, 0, none⟩) t145.length co22)) (v1 := (.slice (some ⟨go12, 0, none⟩) t145.length co22)) (ok := (fun k_ => (w.heap.size ≤ k_) ∧ some k_ ≠ (.slice (some ⟨go10, 0, none⟩) t142.length co18 : Value).ownBlock)) (by (with_reducible repeat (first | apply Kd.R_alloc | apply Kd.R_drewN | apply Kd.R_drew)); exact Kd.R_mono HO150.out (fun _ hk => ⟨⟨hk.1.1, hk.2⟩, hk.1.2⟩)) hg (.inl rfl)); replace BK151 := Aside0.mk (blk_grown (bP BK151) hg (Kd.R_ne HO147.out BK151.out (by decide))); replace HO147 := Aside0.mk (hp_); replace HB := Aside0.mk ((by rw [hw]; exact below_set (HB.out) GB12.out : Below w.heap.size w w30)); clear hg hw hp_; obtain ⟨hcz31_0, hcz31_1, hcz31_2, hfz31_0, hfz31_1, hfz31_2⟩ := bK3 (w := w30) BK151; have p14 : 0 ≤ ((ji7) : Int) := of_decide_eq_true (by first | (with_reducible assumption) | assumption); have q14 : ((ji7) : Int) < ((t148.length : Int) : Int) := of_decide_eq_true (by first | (with_reducible assumption) | assumption); obtain ⟨go14, co14, eo14, gb14, gl14, cl14, HG14⟩ := Kd.R_form HO150.out (by omega); (first | cases eo14 | (injection eo14 with ea_ en_ ec_; (first | subst ea_ | (injection ea_ with ea_; subst ea_)); subst ec_; clear en_)); have GB14 := Aside0.mk gb14; have GG14 := Aside0.mk HG14; clear gb14 gl14 HG14; obtain ⟨hx14_0, hf14_0⟩ := Kd.R_celln 0 HO150.out ((ji7) : Int) p14 q14; replace p14 := eq_true p14; replace q14 := eq_true q14; have n_ := Aside0.mk (Kd.R_mono (ok' := (fun k_ => (w.heap.size ≤ k_) ∧ some k_ ≠ (.slice (some ⟨go10, 0, none⟩) t142.length co18 : Value).ownBlock ∧ some k_ ≠ (.slice (some ⟨go12, 0, none⟩) t145.length co22 : Value).ownBlock)) HO150.out (fun k_ hk => ⟨hk.1.1, ⟨hk.1.2, hk.2⟩⟩)); clear HO150; have HO150 := n_; clear n_; obtain ⟨hy32_, hz32_⟩ := Kd.R_celln 0 HO150.out ((ji7) : Int) (of_decide_eq_true (by first | (with_reducible assumption) | assumption)) (of_decide_eq_true (by first | (with_reducible assumption) | assumption)); have HP32 := Kd.R_putg HO150.out ((ji7) : Int) 1) | ((with_reducible refine gate_store (t := 3) (p := 30) rfl ?_); refine store_event (t := 3) (p := 30) (v := ?vo_w33) (w1 := (w30.setCell ⟨go14, ((ji7) : Int).toNat, none⟩ (.int .i64 1))) ?hg ?ho ?hn ?hr ?_; (case ho => rfl); (case hg => rfl); (case hn => rfl); (case hr => first | (go_simp; done) | (go_simp; rfl)); intro w33 hw; have hg : w30.grownBy w33 (some go14) := (by rw [hw]; exact HP32.2); have hp_ : Kd.R (Kd.int .i64) 3 w33 w.heap.size (fun k_ => (w.heap.size ≤ k_) ∧ some k_ ≠ (.slice (some ⟨go10, 0, none⟩) t142.length co18 : Value).ownBlock ∧ some k_ ≠ (.slice (some ⟨go12, 0, none⟩) t145.length co22 : Value).ownBlock) (.slice (some ⟨go14, 0, none⟩) t148.length co23) y154 := (by rw [hw, Ny154.out]; exact HP32.1); clear HP32; replace HO_142002 := Aside0.mk (Kd.N_afterv (v := (.slice (some ⟨go14, 0, none⟩) t148.length co23)) (v1 := (.slice (some ⟨go14, 0, none⟩) t148.length co23)) (ok := (fun k_ => (w.heap.size ≤ k_) ∧ some k_ ≠ (.slice (some ⟨go10, 0, none⟩) t142.length co18 : Value).ownBlock ∧ some k_ ≠ (.slice (some ⟨go12, 0, none⟩) t145.length co22 : Value).ownBlock ∧ k_ ≠ gb140 ∧ k_ ≠ gb141 ∧ k_ ≠ gb151)) (by (with_reducible repeat (first | apply Kd.N_alloc | apply Kd.N_drewN | apply Kd.N_drew)); exact Kd.N_mono HO_142002.out (fun _ hk => ⟨⟨hk.1.1, ⟨hk.1.2.1, ⟨hk.2, ⟨hk.1.2.2.2.1, ⟨hk.1.2.2.2.2.1, hk.1.2.2.2.2.2⟩⟩⟩⟩⟩, hk.1.2.2.1⟩)) hg (.inl rfl)); replace BK140 := Aside0.mk (blk_grown (bP BK140) hg (Kd.R_ne HO150.out BK140.out (by decide))); replace BK141 := Aside0.mk (blk_grown (bP BK141) hg (Kd.R_ne HO150.out BK141.out (by decide))); replace HO144 := Aside0.mk (Kd.R_after (v := (.slice (some ⟨go14, 0, none⟩) t148.length co23)) (v1 := (.slice (some ⟨go14, 0, none⟩) t148.length co23)) (ok := (fun k_ => (w.heap.size ≤ k_) ∧ some k_ ≠ (.slice (some ⟨go12, 0, none⟩) t145.length co22 : Value).ownBlock)) (by (with_reducible repeat (first | apply Kd.R_alloc | apply Kd.R_drewN | apply Kd.R_drew)); exact Kd.R_mono HO144.out (fun _ hk => ⟨⟨hk.1.1, hk.2⟩, hk.1.2⟩)) hg (.inl rfl)); replace HO147 := Aside0.mk (Kd.R_after (v := (.slice (some ⟨go14, 0, none⟩) t148.length co23)) (v1 := (.slice (some ⟨go14, 0, none⟩) t148.length co23)) (ok := (fun k_ => (w.heap.size ≤ k_) ∧ some k_ ≠ (.slice (some ⟨go10, 0, none⟩) t142.length co18 : Value).ownBlock)) (by (with_reducible repeat (first | apply Kd.R_alloc | apply Kd.R_drewN | apply Kd.R_drew)); exact Kd.R_mono HO147.out (fun _ hk => ⟨⟨hk.1, hk.2.1⟩, hk.2.2⟩)) hg (.inl rfl)); replace BK151 := Aside0.mk (blk_grown (bP BK151) hg (Kd.R_ne HO150.out BK151.out (by decide))); replace HO150 := Aside0.mk (hp_); replace HB := Aside0.mk ((by rw [hw]; exact below_set (HB.out) GB14.out : Below w.heap.size w w33)); clear hg hw hp_; obtain ⟨hnb34, hnc34⟩ := nB NB141_140; obtain ⟨hcz35_0, hcz35_1, hcz35_2, hfz35_0, hfz35_1, hfz35_2⟩ := bK3 (w := w33) BK141; obtain ⟨hcz36_0, hcz36_1, hcz36_2, hfz36_0, hfz36_1, hfz36_2⟩ := bK3 (w := w33) BK151) | ((with_reducible refine gate_builtin (b := .append) (xs := #[.tmp 32, .tmp 34]) rfl ?_); at_builtin; refine Kd.N_append k40 (w0 := w) w.heap.size rfl (.tmp 32) (.tmp 34) 30 40 (.agg #[(.slice none 0 0), (.slice none 0 0), (.slice none 0 0)]) 72 rfl Try.underlying30 info40 rfl (by decide) (by omega) u142002 x142002_1 (⟨y152, y153, y154⟩ : S40) [.slice (some ⟨go10, 0, none⟩) t142.length co18, .slice (some ⟨go12, 0, none⟩) t145.length co22, .slice (some ⟨go14, 0, none⟩) t148.length co23] (fun k_ => (w.heap.size ≤ k_) ∧ k_ ≠ gb140 ∧ k_ ≠ gb141 ∧ k_ ≠ gb151) (fun k_ => ((fun k_ => (w.heap.size ≤ k_) ∧ k_ ≠ gb140 ∧ k_ ≠ gb141 ∧ k_ ≠ gb151)) k_ ∧ some k_ ≠ (u142002 : Value).ownBlock) rfl rfl ?aP (fun _ hk => hk) ?aF ?aO ?aB ?aS ?aL ?_; (case aP => exact (k40_mkFV _ _ _ (⟨y152, y153, y154⟩ : S40) (Kd.R_mono (ok' := (fun k_ => ((fun k_ => (w.heap.size ≤ k_) ∧ k_ ≠ gb140 ∧ k_ ≠ gb141 ∧ k_ ≠ gb151)) k_ ∧ some k_ ≠ (u142002 : Value).ownBlock)) (Kd.R_types (Kd.R_types (Kd.R_types (Kd.R_apart' (HO144.out) (Kd.N_typed HO_142002.out) (by decide)) BK140.out (by decide)) BK141.out (by decide)) BK151.out (by decide)) (fun k_ hk => ⟨⟨hk.1.1.1.1.1.1, ⟨hk.1.1.2, ⟨hk.1.2, hk.2⟩⟩⟩, hk.1.1.1.2⟩)) (Kd.R_mono (ok' := (fun k_ => ((fun k_ => (w.heap.size ≤ k_) ∧ k_ ≠ gb140 ∧ k_ ≠ gb141 ∧ k_ ≠ gb151)) k_ ∧ some k_ ≠ (u142002 : Value).ownBlock)) (Kd.R_types (Kd.R_types (Kd.R_types (Kd.R_apart' (HO147.out) (Kd.N_typed HO_142002.out) (by decide)) BK140.out (by decide)) BK141.out (by decide)) BK151.out (by decide)) (fun k_ hk => ⟨⟨hk.1.1.1.1.1.1, ⟨hk.1.1.2, ⟨hk.1.2, hk.2⟩⟩⟩, hk.1.1.1.2⟩)) (Kd.R_mono (ok' := (fun k_ => ((fun k_ => (w.heap.size ≤ k_) ∧ k_ ≠ gb140 ∧ k_ ≠ gb141 ∧ k_ ≠ gb151)) k_ ∧ some k_ ≠ (u142002 : Value).ownBlock)) (Kd.R_types (Kd.R_types (Kd.R_types (Kd.R_apart' (HO150.out) (Kd.N_typed HO_142002.out) (by decide)) BK140.out (by decide)) BK141.out (by decide)) BK151.out (by decide)) (fun k_ hk => ⟨⟨hk.1.1.1.1.1, ⟨hk.1.1.2, ⟨hk.1.2, hk.2⟩⟩⟩, hk.1.1.1.2⟩)))); (case aB => exact (bZ HB)); (case aF => exact (fun k_ hk => ⟨(Nat.le_trans (below_size (bZ HB)) hk), Kd.freshB (bP BK140) k_ hk, Kd.freshB (bP BK141) k_ hk, Kd.freshB (bP BK151) k_ hk⟩)); (case aO => exact (by (with_reducible repeat (first | apply Kd.N_alloc | apply Kd.N_drewN | apply Kd.N_drew)); exact Kd.N_mono HO_142002.out (fun _ hk => ⟨hk.1.1, ⟨hk.1.2.2.2.1, ⟨hk.1.2.2.2.2.1, hk.1.2.2.2.2.2⟩⟩⟩))); (case aS => exact (below_size (bZ HB))); (case aL => have := LMc15.out; omega); intro v156 w37 ho hb hg hat; rw [← Ny155.out] at ho; replace BK140 := Aside0.mk (blk_grown (bP BK140) hg (Kd.N_ne HO_142002.out BK140.out (by decide))); replace BK141 := Aside0.mk (blk_grown (bP BK141) hg (Kd.N_ne HO_142002.out BK141.out (by decide))); replace BK151 := Aside0.mk (blk_grown (bP BK151) hg (Kd.N_away HO_142002.out (fun _ hk => hk.1.2.2.2.2.2))); replace HB := Aside0.mk (hb); have HO157 := Aside0.mk (ho); clear HO_142002 HO144 HO147 HO150; clear ho hb hg hat; obtain ⟨Ao38, co38, eo38⟩ := Kd.N_slice HO157.out; subst eo38; obtain ⟨hcz39_0, hcz39_1, hcz39_2, hfz39_0, hfz39_1, hfz39_2⟩ := bK3 (w := w37) BK141))
         go_roundg k1
         case measure => have := HK1.out; omega
         case rel => exact ⟨(wrap64 (x3_1 + 1)), (y155), (.slice Ao38 y155.length co38), rS, H', ⟨by have := HK1.out; omega⟩, ⟨by (with_reducible repeat (first | apply Kd.N_alloc | apply Kd.N_drewN | apply Kd.N_drew)); exact Kd.N_mono (Kd.N_far (p := ⟨gb141, 2, none⟩) (Kd.N_mono HO157.out (fun k_ hk => (⟨hk, hk.2.2.1⟩ : _ ∧ k_ ≠ gb141))) (fun _ hk => hk.2) (.slice Ao38 y155.length co38)) (fun _ hk => ⟨hk.1.1, ⟨hk.1.2.1, hk.1.2.2.1⟩⟩)⟩, ⟨bP BK140⟩, ⟨bU BK141⟩, ⟨bZ HB⟩⟩
        ·rw [if_neg c15] at H
         exact absurd H (by simp)
       ·rw [if_neg c13] at H
        exact absurd H (by simp)
      ·rw [if_neg c11] at H
       exact absurd H (by simp)
     ·rw [if_neg c9] at H
      exact absurd H (by simp)
    ·rw [if_neg c8] at H
     exact absurd H (by simp)
   ·rw [if_neg c5] at H
    have c5b0 := decide_eq_false c5
    clear c5
    replace H := Option.bind_eq_some_iff.mp H
    obtain ⟨⟨t158, t161, t164⟩, A400, H⟩ := H
    have A40 := Aside0.mk A400
    clear A400
    replace H := Option.bind_eq_some_iff.mp H
    obtain ⟨⟨t168, t171, t174⟩, A410, H⟩ := H
    have A41 := Aside0.mk A410
    clear A410
    by_cases c42 : 0 < (t158.length : Int)
    ·rw [if_pos c42] at H
     have c42b0 := decide_eq_true c42
     have c42b1 : decide (0 < t158.length) = true := decide_eq_true (by omega)
     clear c42
     obtain ⟨y178, hy178⟩ : ∃ y_ : List Int, y_ = (t158.set (0 : Int).toNat 1) := ⟨_, rfl⟩
     replace H : (if 0 < (t168.length : Int) then (spec_CountSystem.l1 k1 0 11 2 x142002_1 y178 t161 t164 (t168.set (0 : Int).toNat 1) t171 t174) else (none)) = some (r1, r2, r3) := by first | (rw [hy178]; with_reducible exact H) | (have H2_ := (Option.bind_some _ _).symm.trans H; rw [hy178]; with_reducible exact H2_) | (have H2_ := (Option.bind_some _ _).symm.trans H; with_reducible exact H2_) | with_reducible exact H | (rw [hy178]; exact H) | exact H
     have Ny178 := Aside0.mk hy178
     clear hy178
     by_cases c44 : 0 < (t168.length : Int)
     ·rw [if_pos c44] at H
      have c44b0 := decide_eq_true c44
      have c44b1 : decide (0 < t168.length) = true := decide_eq_true (by omega)
      clear c44
      obtain ⟨y179, hy179⟩ : ∃ y_ : List Int, y_ = (t168.set (0 : Int).toNat 1) := ⟨_, rfl⟩
      replace H : (spec_CountSystem.l1 k1 0 11 2 x142002_1 y178 t161 t164 y179 t171 t174) = some (r1, r2, r3) := by first | (rw [hy179]; with_reducible exact H) | (have H2_ := (Option.bind_some _ _).symm.trans H; rw [hy179]; with_reducible exact H2_) | (have H2_ := (Option.bind_some _ _).symm.trans H; with_reducible exact H2_) | with_reducible exact H | (rw [hy179]; exact H) | exact H
      have Ny179 := Aside0.mk hy179
      clear hy179
      have H' := Aside0.mk H
      clear H
      go_wp2_with (first | (refine gC (some 38) Try.func91 #[.int .i64 11] ?_; (with_reducible refine (spec_l13Row.calls 11 t158 t161 t164 _ A40.out).mono ?_); rintro e w46 ⟨v159, v162, v165, rfl, ho0, ho1, ho2, hb⟩; refine ⟨_, rfl, ?_⟩; replace HO_142002 := Aside0.mk (Kd.N_mono (Kd.N_told (Kd.N_told (Kd.N_told (Kd.N_old (by (with_reducible repeat (first | apply Kd.N_alloc | apply Kd.N_drewN | apply Kd.N_drew)); exact HO_142002.out) hb) (Kd.R_base ho0)) (Kd.R_base ho1)) (Kd.R_base ho2)) (fun _ h_ => h_.1)); have HO160 := Aside0.mk (Kd.R_lower (Kd.R_newM (M := fun k_ => (w.heap.size ≤ k_)) ho0 (below_size (bZ HB)) (fun k_ h_ => h_)) (below_size (bZ HB))); have HO163 := Aside0.mk (Kd.R_lower (Kd.R_newM (M := fun k_ => (w.heap.size ≤ k_)) ho1 (below_size (bZ HB)) (fun k_ h_ => h_)) (below_size (bZ HB))); have HO166 := Aside0.mk (Kd.R_lower (Kd.R_newM (M := fun k_ => (w.heap.size ≤ k_)) ho2 (below_size (bZ HB)) (fun k_ h_ => h_)) (below_size (bZ HB))); replace BK140 := bB BK140 hb; replace BK141 := bB BK141 hb; replace HB := bS HB hb; (try clear hb); (try clear ho0); (try clear ho1); (try clear ho2)) | ((with_reducible refine gate_dst (N := 5) rfl ?_); refine bE 5 #[.slice none 0 0, .slice none 0 0, .slice none 0 0] 40 ?_; intro gb167 hg w47 hbox hb; replace HO_142002 := Aside0.mk (Kd.N_below (Kd.N_elderB (by (with_reducible repeat (first | apply Kd.N_alloc | apply Kd.N_drewN | apply Kd.N_drew)); exact HO_142002.out) gb167 (Nat.le_of_eq hg.symm)) hb); replace HO160 := Aside0.mk (Kd.R_below (rP HO160) hb); replace HO163 := Aside0.mk (Kd.R_below (rP HO163) hb); replace HO166 := Aside0.mk (Kd.R_below (rP HO166) hb); have BK167 := Aside0.mk (hbox); have GW167 := bG HB hg; replace HB := bS HB hb; obtain ⟨NB140_167, NB167_140⟩ := bN BK140 hg; replace BK140 := bB BK140 hb; obtain ⟨NB141_167, NB167_141⟩ := bN BK141 hg; replace BK141 := bB BK141 hb; clear hb hbox hg; obtain ⟨Ao48, co48, eo48⟩ := Kd.R_slice HO160.out; subst eo48; obtain ⟨hnb49, hnc49⟩ := nB NB167_140; obtain ⟨hnb50, hnc50⟩ := nB NB167_141; obtain ⟨hcz51_0, hcz51_1, hcz51_2, hfz51_0, hfz51_1, hfz51_2⟩ := bK3 (w := w47) BK167; obtain ⟨Ao52, co52, eo52⟩ := Kd.R_slice HO163.out; subst eo52; obtain ⟨Ao53, co53, eo53⟩ := Kd.R_slice HO166.out; subst eo53) | (refine gC (some 40) Try.func91 #[.int .i64 11] ?_; (with_reducible refine (spec_l13Row.calls 11 t168 t171 t174 _ A41.out).mono ?_); rintro e w54 ⟨v169, v172, v175, rfl, ho0, ho1, ho2, hb⟩; refine ⟨_, rfl, ?_⟩; replace HO_142002 := Aside0.mk (Kd.N_mono (Kd.N_told (Kd.N_told (Kd.N_told (Kd.N_old (by (with_reducible repeat (first | apply Kd.N_alloc | apply Kd.N_drewN | apply Kd.N_drew)); exact (Kd.N_mono (Kd.N_far (p := ⟨gb167, 2, none⟩) (Kd.N_far (p := ⟨gb167, 1, none⟩) (Kd.N_far (p := ⟨gb167, 0, none⟩) (Kd.N_mono HO_142002.out (fun k_ hk => (⟨hk, hk.2⟩ : _ ∧ k_ ≠ gb167))) (fun _ hk => hk.2) (.slice Ao48 t158.length co48)) (fun _ hk => hk.2) (.slice Ao52 t161.length co52)) (fun _ hk => hk.2) (.slice Ao53 t164.length co53)) (fun _ h_ => h_.1))) hb) (Kd.R_base ho0)) (Kd.R_base ho1)) (Kd.R_base ho2)) (fun _ h_ => h_.1)); have HO170 := Aside0.mk (Kd.R_lower (Kd.R_new' (Kd.R_new' (Kd.R_new' (Kd.R_newM (M := fun k_ => (w.heap.size ≤ k_)) ho0 (below_size (bZ HB)) (fun k_ h_ => h_)) (Kd.R_lt (by (with_reducible repeat (first | apply Kd.R_alloc | apply Kd.R_drewN | apply Kd.R_drew)); exact (Kd.R_mono (Kd.R_far (p := ⟨gb167, 2, none⟩) (Kd.R_far (p := ⟨gb167, 1, none⟩) (Kd.R_far (p := ⟨gb167, 0, none⟩) (Kd.R_types HO160.out BK167.out (by decide)) (fun _ hk => hk.2) (.slice Ao48 t158.length co48)) (fun _ hk => hk.2) (.slice Ao52 t161.length co52)) (fun _ hk => hk.2) (.slice Ao53 t164.length co53)) (fun _ h_ => h_.1))))) (Kd.R_lt (by (with_reducible repeat (first | apply Kd.R_alloc | apply Kd.R_drewN | apply Kd.R_drew)); exact (Kd.R_mono (Kd.R_far (p := ⟨gb167, 2, none⟩) (Kd.R_far (p := ⟨gb167, 1, none⟩) (Kd.R_far (p := ⟨gb167, 0, none⟩) (Kd.R_types HO163.out BK167.out (by decide)) (fun _ hk => hk.2) (.slice Ao48 t158.length co48)) (fun _ hk => hk.2) (.slice Ao52 t161.length co52)) (fun _ hk => hk.2) (.slice Ao53 t164.length co53)) (fun _ h_ => h_.1))))) (Kd.R_lt (by (with_reducible repeat (first | apply Kd.R_alloc | apply Kd.R_drewN | apply Kd.R_drew)); exact (Kd.R_mono (Kd.R_far (p := ⟨gb167, 2, none⟩) (Kd.R_far (p := ⟨gb167, 1, none⟩) (Kd.R_far (p := ⟨gb167, 0, none⟩) (Kd.R_types HO166.out BK167.out (by decide)) (fun _ hk => hk.2) (.slice Ao48 t158.length co48)) (fun _ hk => hk.2) (.slice Ao52 t161.length co52)) (fun _ hk => hk.2) (.slice Ao53 t164.length co53)) (fun _ h_ => h_.1))))) (below_size (bZ HB))); have HO173 := Aside0.mk (Kd.R_lower (Kd.R_new' (Kd.R_new' (Kd.R_new' (Kd.R_newM (M := fun k_ => (w.heap.size ≤ k_)) ho1 (below_size (bZ HB)) (fun k_ h_ => h_)) (Kd.R_lt (by (with_reducible repeat (first | apply Kd.R_alloc | apply Kd.R_drewN | apply Kd.R_drew)); exact (Kd.R_mono (Kd.R_far (p := ⟨gb167, 2, none⟩) (Kd.R_far (p := ⟨gb167, 1, none⟩) (Kd.R_far (p := ⟨gb167, 0, none⟩) (Kd.R_types HO160.out BK167.out (by decide)) (fun _ hk => hk.2) (.slice Ao48 t158.length co48)) (fun _ hk => hk.2) (.slice Ao52 t161.length co52)) (fun _ hk => hk.2) (.slice Ao53 t164.length co53)) (fun _ h_ => h_.1))))) (Kd.R_lt (by (with_reducible repeat (first | apply Kd.R_alloc | apply Kd.R_drewN | apply Kd.R_drew)); exact (Kd.R_mono (Kd.R_far (p := ⟨gb167, 2, none⟩) (Kd.R_far (p := ⟨gb167, 1, none⟩) (Kd.R_far (p := ⟨gb167, 0, none⟩) (Kd.R_types HO163.out BK167.out (by decide)) (fun _ hk => hk.2) (.slice Ao48 t158.length co48)) (fun _ hk => hk.2) (.slice Ao52 t161.length co52)) (fun _ hk => hk.2) (.slice Ao53 t164.length co53)) (fun _ h_ => h_.1))))) (Kd.R_lt (by (with_reducible repeat (first | apply Kd.R_alloc | apply Kd.R_drewN | apply Kd.R_drew)); exact (Kd.R_mono (Kd.R_far (p := ⟨gb167, 2, none⟩) (Kd.R_far (p := ⟨gb167, 1, none⟩) (Kd.R_far (p := ⟨gb167, 0, none⟩) (Kd.R_types HO166.out BK167.out (by decide)) (fun _ hk => hk.2) (.slice Ao48 t158.length co48)) (fun _ hk => hk.2) (.slice Ao52 t161.length co52)) (fun _ hk => hk.2) (.slice Ao53 t164.length co53)) (fun _ h_ => h_.1))))) (below_size (bZ HB))); have HO176 := Aside0.mk (Kd.R_lower (Kd.R_new' (Kd.R_new' (Kd.R_new' (Kd.R_newM (M := fun k_ => (w.heap.size ≤ k_)) ho2 (below_size (bZ HB)) (fun k_ h_ => h_)) (Kd.R_lt (by (with_reducible repeat (first | apply Kd.R_alloc | apply Kd.R_drewN | apply Kd.R_drew)); exact (Kd.R_mono (Kd.R_far (p := ⟨gb167, 2, none⟩) (Kd.R_far (p := ⟨gb167, 1, none⟩) (Kd.R_far (p := ⟨gb167, 0, none⟩) (Kd.R_types HO160.out BK167.out (by decide)) (fun _ hk => hk.2) (.slice Ao48 t158.length co48)) (fun _ hk => hk.2) (.slice Ao52 t161.length co52)) (fun _ hk => hk.2) (.slice Ao53 t164.length co53)) (fun _ h_ => h_.1))))) (Kd.R_lt (by (with_reducible repeat (first | apply Kd.R_alloc | apply Kd.R_drewN | apply Kd.R_drew)); exact (Kd.R_mono (Kd.R_far (p := ⟨gb167, 2, none⟩) (Kd.R_far (p := ⟨gb167, 1, none⟩) (Kd.R_far (p := ⟨gb167, 0, none⟩) (Kd.R_types HO163.out BK167.out (by decide)) (fun _ hk => hk.2) (.slice Ao48 t158.length co48)) (fun _ hk => hk.2) (.slice Ao52 t161.length co52)) (fun _ hk => hk.2) (.slice Ao53 t164.length co53)) (fun _ h_ => h_.1))))) (Kd.R_lt (by (with_reducible repeat (first | apply Kd.R_alloc | apply Kd.R_drewN | apply Kd.R_drew)); exact (Kd.R_mono (Kd.R_far (p := ⟨gb167, 2, none⟩) (Kd.R_far (p := ⟨gb167, 1, none⟩) (Kd.R_far (p := ⟨gb167, 0, none⟩) (Kd.R_types HO166.out BK167.out (by decide)) (fun _ hk => hk.2) (.slice Ao48 t158.length co48)) (fun _ hk => hk.2) (.slice Ao52 t161.length co52)) (fun _ hk => hk.2) (.slice Ao53 t164.length co53)) (fun _ h_ => h_.1))))) (below_size (bZ HB))); replace HO160 := Aside0.mk (Kd.R_mono (Kd.R_told (Kd.R_told (Kd.R_told (Kd.R_old (by (with_reducible repeat (first | apply Kd.R_alloc | apply Kd.R_drewN | apply Kd.R_drew)); exact (Kd.R_mono (Kd.R_far (p := ⟨gb167, 2, none⟩) (Kd.R_far (p := ⟨gb167, 1, none⟩) (Kd.R_far (p := ⟨gb167, 0, none⟩) (Kd.R_types HO160.out BK167.out (by decide)) (fun _ hk => hk.2) (.slice Ao48 t158.length co48)) (fun _ hk => hk.2) (.slice Ao52 t161.length co52)) (fun _ hk => hk.2) (.slice Ao53 t164.length co53)) (fun _ h_ => h_.1))) hb) (Kd.R_base ho0)) (Kd.R_base ho1)) (Kd.R_base ho2)) (fun _ h_ => h_.1)); replace HO163 := Aside0.mk (Kd.R_mono (Kd.R_told (Kd.R_told (Kd.R_told (Kd.R_old (by (with_reducible repeat (first | apply Kd.R_alloc | apply Kd.R_drewN | apply Kd.R_drew)); exact (Kd.R_mono (Kd.R_far (p := ⟨gb167, 2, none⟩) (Kd.R_far (p := ⟨gb167, 1, none⟩) (Kd.R_far (p := ⟨gb167, 0, none⟩) (Kd.R_types HO163.out BK167.out (by decide)) (fun _ hk => hk.2) (.slice Ao48 t158.length co48)) (fun _ hk => hk.2) (.slice Ao52 t161.length co52)) (fun _ hk => hk.2) (.slice Ao53 t164.length co53)) (fun _ h_ => h_.1))) hb) (Kd.R_base ho0)) (Kd.R_base ho1)) (Kd.R_base ho2)) (fun _ h_ => h_.1)); replace HO166 := Aside0.mk (Kd.R_mono (Kd.R_told (Kd.R_told (Kd.R_told (Kd.R_old (by (with_reducible repeat (first | apply Kd.R_alloc | apply Kd.R_drewN | apply Kd.R_drew)); exact (Kd.R_mono (Kd.R_far (p := ⟨gb167, 2, none⟩) (Kd.R_far (p := ⟨gb167, 1, none⟩) (Kd.R_far (p := ⟨gb167, 0, none⟩) (Kd.R_types HO166.out BK167.out (by decide)) (fun _ hk => hk.2) (.slice Ao48 t158.length co48)) (fun _ hk => hk.2) (.slice Ao52 t161.length co52)) (fun _ hk => hk.2) (.slice Ao53 t164.length co53)) (fun _ h_ => h_.1))) hb) (Kd.R_base ho0)) (Kd.R_base ho1)) (Kd.R_base ho2)) (fun _ h_ => h_.1)); replace BK140 := bB BK140 hb; replace BK141 := bB BK141 hb; replace BK167 := bV 40 #[.slice Ao48 t158.length co48, .slice Ao52 t161.length co52, .slice Ao53 t164.length co53] BK167 hb; replace HB := bS HB hb; (try clear hb); (try clear ho0); (try clear ho1); (try clear ho2)) | ((with_reducible refine gate_dst (N := 6) rfl ?_); refine bE 6 #[.slice none 0 0, .slice none 0 0, .slice none 0 0] 40 ?_; intro gb177 hg w55 hbox hb; replace HO_142002 := Aside0.mk (Kd.N_below (Kd.N_elderB (by (with_reducible repeat (first | apply Kd.N_alloc | apply Kd.N_drewN | apply Kd.N_drew)); exact HO_142002.out) gb177 (Nat.le_of_eq hg.symm)) hb); replace HO160 := Aside0.mk (Kd.R_below (rP HO160) hb); replace HO163 := Aside0.mk (Kd.R_below (rP HO163) hb); replace HO166 := Aside0.mk (Kd.R_below (rP HO166) hb); replace HO170 := Aside0.mk (Kd.R_below (rP HO170) hb); replace HO173 := Aside0.mk (Kd.R_below (rP HO173) hb); replace HO176 := Aside0.mk (Kd.R_below (rP HO176) hb); have BK177 := Aside0.mk (hbox); have GW177 := bG HB hg; replace HB := bS HB hb; obtain ⟨NB140_177, NB177_140⟩ := bN BK140 hg; replace BK140 := bB BK140 hb; obtain ⟨NB141_177, NB177_141⟩ := bN BK141 hg; replace BK141 := bB BK141 hb; obtain ⟨NB167_177, NB177_167⟩ := bN BK167 hg; replace BK167 := bB BK167 hb; clear hb hbox hg; obtain ⟨Ao56, co56, eo56⟩ := Kd.R_slice HO170.out; subst eo56; obtain ⟨hnb57, hnc57⟩ := nB NB177_140; obtain ⟨hnb58, hnc58⟩ := nB NB177_141; obtain ⟨hnb59, hnc59⟩ := nB NB177_167; obtain ⟨hcz60_0, hcz60_1, hcz60_2, hfz60_0, hfz60_1, hfz60_2⟩ := bK3 (w := w55) BK177; obtain ⟨Ao61, co61, eo61⟩ := Kd.R_slice HO173.out; subst eo61; obtain ⟨Ao62, co62, eo62⟩ := Kd.R_slice HO176.out; subst eo62) | ((with_reducible refine gate_store (t := 40) (p := 6) rfl ?_); refine store_event (t := 40) (p := 6) (v := ?vo_w63) (w1 := (((w55.setCell ⟨gb177, 0, none⟩ (.slice Ao56 t168.length co56)).setCell ⟨gb177, 1, none⟩ (.slice Ao61 t171.length co61)).setCell ⟨gb177, 2, none⟩ (.slice Ao62 t174.length co62))) ?hg ?ho ?hn ?hr ?_; (case ho => rfl); (case hg => rfl); (case hn => rfl); (case hr => first | (go_simp; done) | (go_simp; rfl)); intro w63 hw; replace HO_142002 : Aside0 (Kd.N k40 40 w63 w.heap.size (fun k_ => (w.heap.size ≤ k_) ∧ some k_ ≠ (.slice Ao48 t158.length co48 : Value).ownBlock ∧ some k_ ≠ (.slice Ao52 t161.length co52 : Value).ownBlock ∧ some k_ ≠ (.slice Ao53 t164.length co53 : Value).ownBlock ∧ some k_ ≠ (.slice Ao56 t168.length co56 : Value).ownBlock ∧ some k_ ≠ (.slice Ao61 t171.length co61 : Value).ownBlock ∧ some k_ ≠ (.slice Ao62 t174.length co62 : Value).ownBlock ∧ k_ ≠ gb140 ∧ k_ ≠ gb141 ∧ k_ ≠ gb167 ∧ k_ ≠ gb177) u142002 x142002_1) := ⟨(by rw [hw]; exact (by (with_reducible repeat (first | apply Kd.N_alloc | apply Kd.N_drewN | apply Kd.N_drew)); exact Kd.N_mono (Kd.N_far (p := ⟨gb177, 2, none⟩) (Kd.N_far (p := ⟨gb177, 1, none⟩) (Kd.N_far (p := ⟨gb177, 0, none⟩) (Kd.N_mono HO_142002.out (fun k_ hk => (⟨hk, hk.2⟩ : _ ∧ k_ ≠ gb177))) (fun _ hk => hk.2) (.slice Ao56 t168.length co56)) (fun _ hk => hk.2) (.slice Ao61 t171.length co61)) (fun _ hk => hk.2) (.slice Ao62 t174.length co62)) (fun _ hk => ⟨hk.1.1.1.1.1.1.1.1.1.1, ⟨hk.1.1.1.1.1.1.1.1.2, ⟨hk.1.1.1.1.1.1.1.2, ⟨hk.1.1.1.1.1.1.2, ⟨hk.1.1.1.1.2, ⟨hk.1.1.1.2, ⟨hk.1.1.2, ⟨hk.1.1.1.1.1.1.1.1.1.2.1, ⟨hk.1.1.1.1.1.1.1.1.1.2.2, ⟨hk.1.1.1.1.1.2, hk.1.2⟩⟩⟩⟩⟩⟩⟩⟩⟩⟩)))⟩; replace HO160 : Aside0 (Kd.R (Kd.int .i64) 3 w63 w.heap.size (fun k_ => (w.heap.size ≤ k_) ∧ some k_ ≠ (.slice Ao52 t161.length co52 : Value).ownBlock ∧ some k_ ≠ (.slice Ao53 t164.length co53 : Value).ownBlock ∧ some k_ ≠ (.slice Ao56 t168.length co56 : Value).ownBlock ∧ some k_ ≠ (.slice Ao61 t171.length co61 : Value).ownBlock ∧ some k_ ≠ (.slice Ao62 t174.length co62 : Value).ownBlock) (.slice Ao48 t158.length co48) t158) := ⟨(by rw [hw]; exact (by (with_reducible repeat (first | apply Kd.R_alloc | apply Kd.R_drewN | apply Kd.R_drew)); exact Kd.R_mono (Kd.R_far (p := ⟨gb177, 2, none⟩) (Kd.R_far (p := ⟨gb177, 1, none⟩) (Kd.R_far (p := ⟨gb177, 0, none⟩) (Kd.R_types HO160.out BK177.out (by decide)) (fun _ hk => hk.2) (.slice Ao56 t168.length co56)) (fun _ hk => hk.2) (.slice Ao61 t171.length co61)) (fun _ hk => hk.2) (.slice Ao62 t174.length co62)) (fun _ hk => ⟨hk.1.1.1.1.1, ⟨hk.1.1.1.1.2.1, ⟨hk.1.1.1.1.2.2, ⟨hk.1.1.1.2, ⟨hk.1.1.2, hk.1.2⟩⟩⟩⟩⟩)))⟩; replace HO163 : Aside0 (Kd.R (Kd.int .i64) 3 w63 w.heap.size (fun k_ => (w.heap.size ≤ k_) ∧ some k_ ≠ (.slice Ao48 t158.length co48 : Value).ownBlock ∧ some k_ ≠ (.slice Ao53 t164.length co53 : Value).ownBlock ∧ some k_ ≠ (.slice Ao56 t168.length co56 : Value).ownBlock ∧ some k_ ≠ (.slice Ao61 t171.length co61 : Value).ownBlock ∧ some k_ ≠ (.slice Ao62 t174.length co62 : Value).ownBlock) (.slice Ao52 t161.length co52) t161) := ⟨(by rw [hw]; exact (by (with_reducible repeat (first | apply Kd.R_alloc | apply Kd.R_drewN | apply Kd.R_drew)); exact Kd.R_mono (Kd.R_far (p := ⟨gb177, 2, none⟩) (Kd.R_far (p := ⟨gb177, 1, none⟩) (Kd.R_far (p := ⟨gb177, 0, none⟩) (Kd.R_types HO163.out BK177.out (by decide)) (fun _ hk => hk.2) (.slice Ao56 t168.length co56)) (fun _ hk => hk.2) (.slice Ao61 t171.length co61)) (fun _ hk => hk.2) (.slice Ao62 t174.length co62)) (fun _ hk => ⟨hk.1.1.1.1.1, ⟨hk.1.1.1.1.2.1, ⟨hk.1.1.1.1.2.2, ⟨hk.1.1.1.2, ⟨hk.1.1.2, hk.1.2⟩⟩⟩⟩⟩)))⟩; replace HO166 : Aside0 (Kd.R (Kd.int .i64) 3 w63 w.heap.size (fun k_ => (w.heap.size ≤ k_) ∧ some k_ ≠ (.slice Ao48 t158.length co48 : Value).ownBlock ∧ some k_ ≠ (.slice Ao52 t161.length co52 : Value).ownBlock ∧ some k_ ≠ (.slice Ao56 t168.length co56 : Value).ownBlock ∧ some k_ ≠ (.slice Ao61 t171.length co61 : Value).ownBlock ∧ some k_ ≠ (.slice Ao62 t174.length co62 : Value).ownBlock) (.slice Ao53 t164.length co53) t164) := ⟨(by rw [hw]; exact (by (with_reducible repeat (first | apply Kd.R_alloc | apply Kd.R_drewN | apply Kd.R_drew)); exact Kd.R_mono (Kd.R_far (p := ⟨gb177, 2, none⟩) (Kd.R_far (p := ⟨gb177, 1, none⟩) (Kd.R_far (p := ⟨gb177, 0, none⟩) (Kd.R_types HO166.out BK177.out (by decide)) (fun _ hk => hk.2) (.slice Ao56 t168.length co56)) (fun _ hk => hk.2) (.slice Ao61 t171.length co61)) (fun _ hk => hk.2) (.slice Ao62 t174.length co62)) (fun _ hk => ⟨hk.1.1.1.1.1, ⟨hk.1.1.1.1.2.1, ⟨hk.1.1.1.1.2.2, ⟨hk.1.1.1.2, ⟨hk.1.1.2, hk.1.2⟩⟩⟩⟩⟩)))⟩; replace HO170 : Aside0 (Kd.R (Kd.int .i64) 3 w63 w.heap.size (fun k_ => (w.heap.size ≤ k_) ∧ some k_ ≠ (.slice Ao48 t158.length co48 : Value).ownBlock ∧ some k_ ≠ (.slice Ao52 t161.length co52 : Value).ownBlock ∧ some k_ ≠ (.slice Ao53 t164.length co53 : Value).ownBlock ∧ some k_ ≠ (.slice Ao61 t171.length co61 : Value).ownBlock ∧ some k_ ≠ (.slice Ao62 t174.length co62 : Value).ownBlock) (.slice Ao56 t168.length co56) t168) := ⟨(by rw [hw]; exact (by (with_reducible repeat (first | apply Kd.R_alloc | apply Kd.R_drewN | apply Kd.R_drew)); exact Kd.R_mono (Kd.R_far (p := ⟨gb177, 2, none⟩) (Kd.R_far (p := ⟨gb177, 1, none⟩) (Kd.R_far (p := ⟨gb177, 0, none⟩) (Kd.R_types HO170.out BK177.out (by decide)) (fun _ hk => hk.2) (.slice Ao56 t168.length co56)) (fun _ hk => hk.2) (.slice Ao61 t171.length co61)) (fun _ hk => hk.2) (.slice Ao62 t174.length co62)) (fun _ hk => ⟨hk.1.1.1.1.1, ⟨hk.1.1.1.2, ⟨hk.1.1.2, ⟨hk.1.2, ⟨hk.1.1.1.1.2.1, hk.1.1.1.1.2.2⟩⟩⟩⟩⟩)))⟩; replace HO173 : Aside0 (Kd.R (Kd.int .i64) 3 w63 w.heap.size (fun k_ => (w.heap.size ≤ k_) ∧ some k_ ≠ (.slice Ao48 t158.length co48 : Value).ownBlock ∧ some k_ ≠ (.slice Ao52 t161.length co52 : Value).ownBlock ∧ some k_ ≠ (.slice Ao53 t164.length co53 : Value).ownBlock ∧ some k_ ≠ (.slice Ao56 t168.length co56 : Value).ownBlock ∧ some k_ ≠ (.slice Ao62 t174.length co62 : Value).ownBlock) (.slice Ao61 t171.length co61) t171) := ⟨(by rw [hw]; exact (by (with_reducible repeat (first | apply Kd.R_alloc | apply Kd.R_drewN | apply Kd.R_drew)); exact Kd.R_mono (Kd.R_far (p := ⟨gb177, 2, none⟩) (Kd.R_far (p := ⟨gb177, 1, none⟩) (Kd.R_far (p := ⟨gb177, 0, none⟩) (Kd.R_types HO173.out BK177.out (by decide)) (fun _ hk => hk.2) (.slice Ao56 t168.length co56)) (fun _ hk => hk.2) (.slice Ao61 t171.length co61)) (fun _ hk => hk.2) (.slice Ao62 t174.length co62)) (fun _ hk => ⟨hk.1.1.1.1.1, ⟨hk.1.1.1.2, ⟨hk.1.1.2, ⟨hk.1.2, ⟨hk.1.1.1.1.2.1, hk.1.1.1.1.2.2⟩⟩⟩⟩⟩)))⟩; replace HO176 : Aside0 (Kd.R (Kd.int .i64) 3 w63 w.heap.size (fun k_ => (w.heap.size ≤ k_) ∧ some k_ ≠ (.slice Ao48 t158.length co48 : Value).ownBlock ∧ some k_ ≠ (.slice Ao52 t161.length co52 : Value).ownBlock ∧ some k_ ≠ (.slice Ao53 t164.length co53 : Value).ownBlock ∧ some k_ ≠ (.slice Ao56 t168.length co56 : Value).ownBlock ∧ some k_ ≠ (.slice Ao61 t171.length co61 : Value).ownBlock) (.slice Ao62 t174.length co62) t174) := ⟨(by rw [hw]; exact (by (with_reducible repeat (first | apply Kd.R_alloc | apply Kd.R_drewN | apply Kd.R_drew)); exact Kd.R_mono (Kd.R_far (p := ⟨gb177, 2, none⟩) (Kd.R_far (p := ⟨gb177, 1, none⟩) (Kd.R_far (p := ⟨gb177, 0, none⟩) (Kd.R_types HO176.out BK177.out (by decide)) (fun _ hk => hk.2) (.slice Ao56 t168.length co56)) (fun _ hk => hk.2) (.slice Ao61 t171.length co61)) (fun _ hk => hk.2) (.slice Ao62 t174.length co62)) (fun _ hk => ⟨hk.1.1.1.1.1, ⟨hk.1.1.1.2, ⟨hk.1.1.2, ⟨hk.1.2, ⟨hk.1.1.1.1.2.1, hk.1.1.1.1.2.2⟩⟩⟩⟩⟩)))⟩; replace BK140 : Aside0 (w63.heap[gb140]? = some (.cells #[.int .i64 0, .int .i64 0, .slice none 0 0] 32 (0, 0))) := ⟨(by rw [hw]; exact (bP BK140))⟩; replace BK141 : Aside0 (w63.heap[gb141]? = some (.cells #[.int .i64 11, .int .i64 2, u142002] 32 (0, 0))) := ⟨(by rw [hw]; exact (bP BK141))⟩; replace BK167 : Aside0 (w63.heap[gb167]? = some (.cells #[.slice Ao48 t158.length co48, .slice Ao52 t161.length co52, .slice Ao53 t164.length co53] 40 (0, 0))) := ⟨(by rw [hw]; exact (bP BK167))⟩; replace BK177 : Aside0 (w63.heap[gb177]? = some (.cells #[.slice Ao56 t168.length co56, .slice Ao61 t171.length co61, .slice Ao62 t174.length co62] 40 (0, 0))) := ⟨(by rw [hw]; exact (bU BK177))⟩; replace HB : Aside0 (Below w.heap.size w w63) := ⟨(by rw [hw]; exact (bZ HB))⟩; clear hw; obtain ⟨hcz64_0, hcz64_1, hcz64_2, hfz64_0, hfz64_1, hfz64_2⟩ := bK3 (w := w63) BK167; have p43 : 0 ≤ (0 : Int) := (by omega); have q43 : (0 : Int) < ((t158.length : Int) : Int) := of_decide_eq_true (by first | (with_reducible assumption) | assumption); have qi43 : (0 < t158.length) = True := eq_true (by omega); obtain ⟨go43, co43, eo43, gb43, gl43, cl43, HG43⟩ := Kd.R_form HO160.out (by omega); (first | cases eo43 | (injection eo43 with ea_ en_ ec_; (first | subst ea_ | (injection ea_ with ea_; subst ea_)); subst ec_; clear en_)); have GB43 := Aside0.mk gb43; have GG43 := Aside0.mk HG43; clear gb43 gl43 HG43; obtain ⟨hx43_0, hf43_0⟩ := Kd.R_celln 0 HO160.out (0 : Int) p43 q43; (try rw [show ((0 : Int)).toNat = 0 from rfl] at hx43_0); (try simp only [Nat.reduceMul, Nat.zero_mul, Nat.zero_add, Nat.reduceAdd] at hx43_0); (try rw [show ((0 : Int)).toNat = 0 from rfl] at hf43_0); (try simp only [Nat.reduceMul, Nat.zero_mul, Nat.zero_add, Nat.reduceAdd] at hf43_0); replace p43 := eq_true p43; replace q43 := eq_true q43; obtain ⟨hy65_, hz65_⟩ := Kd.R_celln 0 HO160.out (0 : Int) (by omega) (of_decide_eq_true (by first | (with_reducible assumption) | assumption)); (try simp only [Int.reduceToNat, Int.toNat_zero, Int.toNat_ofNat, Nat.reduceMul, Nat.zero_mul, Nat.zero_add] at hy65_ hz65_); (try rw [show ((0 : Int)).toNat = 0 from rfl] at hy65_); (try rw [show ((0 : Int)).toNat = 0 from rfl] at hz65_); have HP65 := Kd.R_putg HO160.out (0 : Int) 1) | ((with_reducible refine gate_store (t := 3) (p := 43) rfl ?_); refine store_event (t := 3) (p := 43) (v := ?vo_w66) (w1 := (w63.setCell ⟨go43, (0 : Int).toNat, none⟩ (.int .i64 1))) ?hg ?ho ?hn ?hr ?_; (case ho => rfl); (case hg => rfl); (case hn => rfl); (case hr => first | (go_simp; done) | (go_simp; rfl)); intro w66 hw; have hg : w63.grownBy w66 (some go43) := (by rw [hw]; exact HP65.2); have hp_ : Kd.R (Kd.int .i64) 3 w66 w.heap.size (fun k_ => (w.heap.size ≤ k_) ∧ some k_ ≠ (.slice Ao52 t161.length co52 : Value).ownBlock ∧ some k_ ≠ (.slice Ao53 t164.length co53 : Value).ownBlock ∧ some k_ ≠ (.slice Ao56 t168.length co56 : Value).ownBlock ∧ some k_ ≠ (.slice Ao61 t171.length co61 : Value).ownBlock ∧ some k_ ≠ (.slice Ao62 t174.length co62 : Value).ownBlock) (.slice (some ⟨go43, 0, none⟩) t158.length co48) y178 := (by rw [hw, Ny178.out]; exact HP65.1); clear HP65; replace HO_142002 := Aside0.mk (Kd.N_afterv (v := (.slice (some ⟨go43, 0, none⟩) t158.length co48)) (v1 := (.slice (some ⟨go43, 0, none⟩) t158.length co48)) (ok := (fun k_ => (w.heap.size ≤ k_) ∧ some k_ ≠ (.slice Ao52 t161.length co52 : Value).ownBlock ∧ some k_ ≠ (.slice Ao53 t164.length co53 : Value).ownBlock ∧ some k_ ≠ (.slice Ao56 t168.length co56 : Value).ownBlock ∧ some k_ ≠ (.slice Ao61 t171.length co61 : Value).ownBlock ∧ some k_ ≠ (.slice Ao62 t174.length co62 : Value).ownBlock ∧ k_ ≠ gb140 ∧ k_ ≠ gb141 ∧ k_ ≠ gb167 ∧ k_ ≠ gb177)) (by (with_reducible repeat (first | apply Kd.N_alloc | apply Kd.N_drewN | apply Kd.N_drew)); exact Kd.N_mono HO_142002.out (fun _ hk => ⟨⟨hk.1, ⟨hk.2.2.1, ⟨hk.2.2.2.1, ⟨hk.2.2.2.2.1, ⟨hk.2.2.2.2.2.1, ⟨hk.2.2.2.2.2.2.1, ⟨hk.2.2.2.2.2.2.2.1, ⟨hk.2.2.2.2.2.2.2.2.1, ⟨hk.2.2.2.2.2.2.2.2.2.1, hk.2.2.2.2.2.2.2.2.2.2⟩⟩⟩⟩⟩⟩⟩⟩⟩, hk.2.1⟩)) hg (.inl rfl)); replace BK140 := Aside0.mk (blk_grown (bP BK140) hg (Kd.R_ne HO160.out BK140.out (by decide))); replace BK141 := Aside0.mk (blk_grown (bP BK141) hg (Kd.R_ne HO160.out BK141.out (by decide))); replace HO163 := Aside0.mk (Kd.R_after (v := (.slice (some ⟨go43, 0, none⟩) t158.length co48)) (v1 := (.slice (some ⟨go43, 0, none⟩) t158.length co48)) (ok := (fun k_ => (w.heap.size ≤ k_) ∧ some k_ ≠ (.slice Ao53 t164.length co53 : Value).ownBlock ∧ some k_ ≠ (.slice Ao56 t168.length co56 : Value).ownBlock ∧ some k_ ≠ (.slice Ao61 t171.length co61 : Value).ownBlock ∧ some k_ ≠ (.slice Ao62 t174.length co62 : Value).ownBlock)) (by (with_reducible repeat (first | apply Kd.R_alloc | apply Kd.R_drewN | apply Kd.R_drew)); exact Kd.R_mono HO163.out (fun _ hk => ⟨⟨hk.1, ⟨hk.2.2.1, ⟨hk.2.2.2.1, ⟨hk.2.2.2.2.1, hk.2.2.2.2.2⟩⟩⟩⟩, hk.2.1⟩)) hg (.inl rfl)); replace HO166 := Aside0.mk (Kd.R_after (v := (.slice (some ⟨go43, 0, none⟩) t158.length co48)) (v1 := (.slice (some ⟨go43, 0, none⟩) t158.length co48)) (ok := (fun k_ => (w.heap.size ≤ k_) ∧ some k_ ≠ (.slice Ao52 t161.length co52 : Value).ownBlock ∧ some k_ ≠ (.slice Ao56 t168.length co56 : Value).ownBlock ∧ some k_ ≠ (.slice Ao61 t171.length co61 : Value).ownBlock ∧ some k_ ≠ (.slice Ao62 t174.length co62 : Value).ownBlock)) (by (with_reducible repeat (first | apply Kd.R_alloc | apply Kd.R_drewN | apply Kd.R_drew)); exact Kd.R_mono HO166.out (fun _ hk => ⟨⟨hk.1, ⟨hk.2.2.1, ⟨hk.2.2.2.1, ⟨hk.2.2.2.2.1, hk.2.2.2.2.2⟩⟩⟩⟩, hk.2.1⟩)) hg (.inl rfl)); replace BK167 := Aside0.mk (blk_grown (bP BK167) hg (Kd.R_ne HO160.out BK167.out (by decide))); replace HO170 := Aside0.mk (Kd.R_after (v := (.slice (some ⟨go43, 0, none⟩) t158.length co48)) (v1 := (.slice (some ⟨go43, 0, none⟩) t158.length co48)) (ok := (fun k_ => (w.heap.size ≤ k_) ∧ some k_ ≠ (.slice Ao52 t161.length co52 : Value).ownBlock ∧ some k_ ≠ (.slice Ao53 t164.length co53 : Value).ownBlock ∧ some k_ ≠ (.slice Ao61 t171.length co61 : Value).ownBlock ∧ some k_ ≠ (.slice Ao62 t174.length co62 : Value).ownBlock)) (by (with_reducible repeat (first | apply Kd.R_alloc | apply Kd.R_drewN | apply Kd.R_drew)); exact Kd.R_mono HO170.out (fun _ hk => ⟨⟨hk.1, ⟨hk.2.2.1, ⟨hk.2.2.2.1, ⟨hk.2.2.2.2.1, hk.2.2.2.2.2⟩⟩⟩⟩, hk.2.1⟩)) hg (.inl rfl)); replace HO173 := Aside0.mk (Kd.R_after (v := (.slice (some ⟨go43, 0, none⟩) t158.length co48)) (v1 := (.slice (some ⟨go43, 0, none⟩) t158.length co48)) (ok := (fun k_ => (w.heap.size ≤ k_) ∧ some k_ ≠ (.slice Ao52 t161.length co52 : Value).ownBlock ∧ some k_ ≠ (.slice Ao53 t164.length co53 : Value).ownBlock ∧ some k_ ≠ (.slice Ao56 t168.length co56 : Value).ownBlock ∧ some k_ ≠ (.slice Ao62 t174.length co62 : Value).ownBlock)) (by (with_reducible repeat (first | apply Kd.R_alloc | apply Kd.R_drewN | apply Kd.R_drew)); exact Kd.R_mono HO173.out (fun _ hk => ⟨⟨hk.1, ⟨hk.2.2.1, ⟨hk.2.2.2.1, ⟨hk.2.2.2.2.1, hk.2.2.2.2.2⟩⟩⟩⟩, hk.2.1⟩)) hg (.inl rfl)); replace HO176 := Aside0.mk (Kd.R_after (v := (.slice (some ⟨go43, 0, none⟩) t158.length co48)) (v1 := (.slice (some ⟨go43, 0, none⟩) t158.length co48)) (ok := (fun k_ => (w.heap.size ≤ k_) ∧ some k_ ≠ (.slice Ao52 t161.length co52 : Value).ownBlock ∧ some k_ ≠ (.slice Ao53 t164.length co53 : Value).ownBlock ∧ some k_ ≠ (.slice Ao56 t168.length co56 : Value).ownBlock ∧ some k_ ≠ (.slice Ao61 t171.length co61 : Value).ownBlock)) (by (with_reducible repeat (first | apply Kd.R_alloc | apply Kd.R_drewN | apply Kd.R_drew)); exact Kd.R_mono HO176.out (fun _ hk => ⟨⟨hk.1, ⟨hk.2.2.1, ⟨hk.2.2.2.1, ⟨hk.2.2.2.2.1, hk.2.2.2.2.2⟩⟩⟩⟩, hk.2.1⟩)) hg (.inl rfl)); replace BK177 := Aside0.mk (blk_grown (bP BK177) hg (Kd.R_ne HO160.out BK177.out (by decide))); replace HO160 := Aside0.mk (hp_); replace HB := Aside0.mk ((by rw [hw]; exact below_set (HB.out) GB43.out : Below w.heap.size w w66)); clear hg hw hp_; obtain ⟨hcz67_0, hcz67_1, hcz67_2, hfz67_0, hfz67_1, hfz67_2⟩ := bK3 (w := w66) BK177; have p45 : 0 ≤ (0 : Int) := (by omega); have q45 : (0 : Int) < ((t168.length : Int) : Int) := of_decide_eq_true (by first | (with_reducible assumption) | assumption); have qi45 : (0 < t168.length) = True := eq_true (by omega); obtain ⟨go45, co45, eo45, gb45, gl45, cl45, HG45⟩ := Kd.R_form HO170.out (by omega); (first | cases eo45 | (injection eo45 with ea_ en_ ec_; (first | subst ea_ | (injection ea_ with ea_; subst ea_)); subst ec_; clear en_)); have GB45 := Aside0.mk gb45; have GG45 := Aside0.mk HG45; clear gb45 gl45 HG45; obtain ⟨hx45_0, hf45_0⟩ := Kd.R_celln 0 HO170.out (0 : Int) p45 q45; (try rw [show ((0 : Int)).toNat = 0 from rfl] at hx45_0); (try simp only [Nat.reduceMul, Nat.zero_mul, Nat.zero_add, Nat.reduceAdd] at hx45_0); (try rw [show ((0 : Int)).toNat = 0 from rfl] at hf45_0); (try simp only [Nat.reduceMul, Nat.zero_mul, Nat.zero_add, Nat.reduceAdd] at hf45_0); replace p45 := eq_true p45; replace q45 := eq_true q45; have n_ := Aside0.mk (Kd.R_mono (ok' := (fun k_ => (w.heap.size ≤ k_) ∧ some k_ ≠ (.slice (some ⟨go43, 0, none⟩) t158.length co48 : Value).ownBlock ∧ some k_ ≠ (.slice Ao52 t161.length co52 : Value).ownBlock ∧ some k_ ≠ (.slice Ao53 t164.length co53 : Value).ownBlock ∧ some k_ ≠ (.slice Ao61 t171.length co61 : Value).ownBlock ∧ some k_ ≠ (.slice Ao62 t174.length co62 : Value).ownBlock)) HO170.out (fun k_ hk => ⟨hk.1.1, ⟨hk.2, ⟨hk.1.2.1, ⟨hk.1.2.2.1, ⟨hk.1.2.2.2.1, hk.1.2.2.2.2⟩⟩⟩⟩⟩)); clear HO170; have HO170 := n_; clear n_; obtain ⟨hy68_, hz68_⟩ := Kd.R_celln 0 HO170.out (0 : Int) (by omega) (of_decide_eq_true (by first | (with_reducible assumption) | assumption)); (try simp only [Int.reduceToNat, Int.toNat_zero, Int.toNat_ofNat, Nat.reduceMul, Nat.zero_mul, Nat.zero_add] at hy68_ hz68_); (try rw [show ((0 : Int)).toNat = 0 from rfl] at hy68_); (try rw [show ((0 : Int)).toNat = 0 from rfl] at hz68_); have HP68 := Kd.R_putg HO170.out (0 : Int) 1) | ((with_reducible refine gate_store (t := 3) (p := 46) rfl ?_); refine store_event (t := 3) (p := 46) (v := ?vo_w69) (w1 := (w66.setCell ⟨go45, (0 : Int).toNat, none⟩ (.int .i64 1))) ?hg ?ho ?hn ?hr ?_; (case ho => rfl); (case hg => rfl); (case hn => rfl); (case hr => first | (go_simp; done) | (go_simp; rfl)); intro w69 hw; have hg : w66.grownBy w69 (some go45) := (by rw [hw]; exact HP68.2); have hp_ : Kd.R (Kd.int .i64) 3 w69 w.heap.size (fun k_ => (w.heap.size ≤ k_) ∧ some k_ ≠ (.slice (some ⟨go43, 0, none⟩) t158.length co48 : Value).ownBlock ∧ some k_ ≠ (.slice Ao52 t161.length co52 : Value).ownBlock ∧ some k_ ≠ (.slice Ao53 t164.length co53 : Value).ownBlock ∧ some k_ ≠ (.slice Ao61 t171.length co61 : Value).ownBlock ∧ some k_ ≠ (.slice Ao62 t174.length co62 : Value).ownBlock) (.slice (some ⟨go45, 0, none⟩) t168.length co56) y179 := (by rw [hw, Ny179.out]; exact HP68.1); clear HP68; replace HO_142002 := Aside0.mk (Kd.N_afterv (v := (.slice (some ⟨go45, 0, none⟩) t168.length co56)) (v1 := (.slice (some ⟨go45, 0, none⟩) t168.length co56)) (ok := (fun k_ => (w.heap.size ≤ k_) ∧ some k_ ≠ (.slice (some ⟨go43, 0, none⟩) t158.length co48 : Value).ownBlock ∧ some k_ ≠ (.slice Ao52 t161.length co52 : Value).ownBlock ∧ some k_ ≠ (.slice Ao53 t164.length co53 : Value).ownBlock ∧ some k_ ≠ (.slice Ao61 t171.length co61 : Value).ownBlock ∧ some k_ ≠ (.slice Ao62 t174.length co62 : Value).ownBlock ∧ k_ ≠ gb140 ∧ k_ ≠ gb141 ∧ k_ ≠ gb167 ∧ k_ ≠ gb177)) (by (with_reducible repeat (first | apply Kd.N_alloc | apply Kd.N_drewN | apply Kd.N_drew)); exact Kd.N_mono HO_142002.out (fun _ hk => ⟨⟨hk.1.1, ⟨hk.2, ⟨hk.1.2.1, ⟨hk.1.2.2.1, ⟨hk.1.2.2.2.2.1, ⟨hk.1.2.2.2.2.2.1, ⟨hk.1.2.2.2.2.2.2.1, ⟨hk.1.2.2.2.2.2.2.2.1, ⟨hk.1.2.2.2.2.2.2.2.2.1, hk.1.2.2.2.2.2.2.2.2.2⟩⟩⟩⟩⟩⟩⟩⟩⟩, hk.1.2.2.2.1⟩)) hg (.inl rfl)); replace BK140 := Aside0.mk (blk_grown (bP BK140) hg (Kd.R_ne HO170.out BK140.out (by decide))); replace BK141 := Aside0.mk (blk_grown (bP BK141) hg (Kd.R_ne HO170.out BK141.out (by decide))); replace HO160 := Aside0.mk (Kd.R_after (v := (.slice (some ⟨go45, 0, none⟩) t168.length co56)) (v1 := (.slice (some ⟨go45, 0, none⟩) t168.length co56)) (ok := (fun k_ => (w.heap.size ≤ k_) ∧ some k_ ≠ (.slice Ao52 t161.length co52 : Value).ownBlock ∧ some k_ ≠ (.slice Ao53 t164.length co53 : Value).ownBlock ∧ some k_ ≠ (.slice Ao61 t171.length co61 : Value).ownBlock ∧ some k_ ≠ (.slice Ao62 t174.length co62 : Value).ownBlock)) (by (with_reducible repeat (first | apply Kd.R_alloc | apply Kd.R_drewN | apply Kd.R_drew)); exact Kd.R_mono HO160.out (fun _ hk => ⟨⟨hk.1, ⟨hk.2.1, ⟨hk.2.2.1, ⟨hk.2.2.2.2.1, hk.2.2.2.2.2⟩⟩⟩⟩, hk.2.2.2.1⟩)) hg (.inl rfl)); replace HO163 := Aside0.mk (Kd.R_after (v := (.slice (some ⟨go45, 0, none⟩) t168.length co56)) (v1 := (.slice (some ⟨go45, 0, none⟩) t168.length co56)) (ok := (fun k_ => (w.heap.size ≤ k_) ∧ some k_ ≠ (.slice (some ⟨go43, 0, none⟩) t158.length co48 : Value).ownBlock ∧ some k_ ≠ (.slice Ao53 t164.length co53 : Value).ownBlock ∧ some k_ ≠ (.slice Ao61 t171.length co61 : Value).ownBlock ∧ some k_ ≠ (.slice Ao62 t174.length co62 : Value).ownBlock)) (by (with_reducible repeat (first | apply Kd.R_alloc | apply Kd.R_drewN | apply Kd.R_drew)); exact Kd.R_mono HO163.out (fun _ hk => ⟨⟨hk.1.1, ⟨hk.2, ⟨hk.1.2.1, ⟨hk.1.2.2.2.1, hk.1.2.2.2.2⟩⟩⟩⟩, hk.1.2.2.1⟩)) hg (.inl rfl)); replace HO166 := Aside0.mk (Kd.R_after (v := (.slice (some ⟨go45, 0, none⟩) t168.length co56)) (v1 := (.slice (some ⟨go45, 0, none⟩) t168.length co56)) (ok := (fun k_ => (w.heap.size ≤ k_) ∧ some k_ ≠ (.slice (some ⟨go43, 0, none⟩) t158.length co48 : Value).ownBlock ∧ some k_ ≠ (.slice Ao52 t161.length co52 : Value).ownBlock ∧ some k_ ≠ (.slice Ao61 t171.length co61 : Value).ownBlock ∧ some k_ ≠ (.slice Ao62 t174.length co62 : Value).ownBlock)) (by (with_reducible repeat (first | apply Kd.R_alloc | apply Kd.R_drewN | apply Kd.R_drew)); exact Kd.R_mono HO166.out (fun _ hk => ⟨⟨hk.1.1, ⟨hk.2, ⟨hk.1.2.1, ⟨hk.1.2.2.2.1, hk.1.2.2.2.2⟩⟩⟩⟩, hk.1.2.2.1⟩)) hg (.inl rfl)); replace BK167 := Aside0.mk (blk_grown (bP BK167) hg (Kd.R_ne HO170.out BK167.out (by decide))); replace HO173 := Aside0.mk (Kd.R_after (v := (.slice (some ⟨go45, 0, none⟩) t168.length co56)) (v1 := (.slice (some ⟨go45, 0, none⟩) t168.length co56)) (ok := (fun k_ => (w.heap.size ≤ k_) ∧ some k_ ≠ (.slice (some ⟨go43, 0, none⟩) t158.length co48 : Value).ownBlock ∧ some k_ ≠ (.slice Ao52 t161.length co52 : Value).ownBlock ∧ some k_ ≠ (.slice Ao53 t164.length co53 : Value).ownBlock ∧ some k_ ≠ (.slice Ao62 t174.length co62 : Value).ownBlock)) (by (with_reducible repeat (first | apply Kd.R_alloc | apply Kd.R_drewN | apply Kd.R_drew)); exact Kd.R_mono HO173.out (fun _ hk => ⟨⟨hk.1.1, ⟨hk.2, ⟨hk.1.2.1, ⟨hk.1.2.2.1, hk.1.2.2.2.2⟩⟩⟩⟩, hk.1.2.2.2.1⟩)) hg (.inl rfl)); replace HO176 := Aside0.mk (Kd.R_after (v := (.slice (some ⟨go45, 0, none⟩) t168.length co56)) (v1 := (.slice (some ⟨go45, 0, none⟩) t168.length co56)) (ok := (fun k_ => (w.heap.size ≤ k_) ∧ some k_ ≠ (.slice (some ⟨go43, 0, none⟩) t158.length co48 : Value).ownBlock ∧ some k_ ≠ (.slice Ao52 t161.length co52 : Value).ownBlock ∧ some k_ ≠ (.slice Ao53 t164.length co53 : Value).ownBlock ∧ some k_ ≠ (.slice Ao61 t171.length co61 : Value).ownBlock)) (by (with_reducible repeat (first | apply Kd.R_alloc | apply Kd.R_drewN | apply Kd.R_drew)); exact Kd.R_mono HO176.out (fun _ hk => ⟨⟨hk.1.1, ⟨hk.2, ⟨hk.1.2.1, ⟨hk.1.2.2.1, hk.1.2.2.2.2⟩⟩⟩⟩, hk.1.2.2.2.1⟩)) hg (.inl rfl)); replace BK177 := Aside0.mk (blk_grown (bP BK177) hg (Kd.R_ne HO170.out BK177.out (by decide))); replace HO170 := Aside0.mk (hp_); replace HB := Aside0.mk ((by rw [hw]; exact below_set (HB.out) GB45.out : Below w.heap.size w w69)); clear hg hw hp_))
      go_loopg [7] k1 (fun kq v7 w' => ∃ (x7_2 : Int) (x168000_2 : List Int) (x168001_2 : List Int) (x168002_2 : List Int) (x178000_2 : List Int) (x178001_2 : List Int) (x178002_2 : List Int) (u168000 : Value) (u168001 : Value) (u168002 : Value) (u178000 : Value) (u178001 : Value) (u178002 : Value), v7 = .int .i64 x7_2 ∧ Aside0 (spec_CountSystem.l1 kq x7_2 11 2 x142002_1 x168000_2 x168001_2 x168002_2 x178000_2 x178001_2 x178002_2 = some (r1, r2, r3)) ∧ Aside0 (kq ≤ k1) ∧ Aside0 (Kd.N k40 40 w' w.heap.size (fun k_ => (w.heap.size ≤ k_) ∧ some k_ ≠ (u168000 : Value).ownBlock ∧ some k_ ≠ (u168001 : Value).ownBlock ∧ some k_ ≠ (u168002 : Value).ownBlock ∧ some k_ ≠ (u178000 : Value).ownBlock ∧ some k_ ≠ (u178001 : Value).ownBlock ∧ some k_ ≠ (u178002 : Value).ownBlock ∧ k_ ≠ gb140 ∧ k_ ≠ gb141 ∧ k_ ≠ gb167 ∧ k_ ≠ gb177) u142002 x142002_1) ∧ Aside0 (Kd.R (Kd.int .i64) 3 w' w.heap.size (fun k_ => (w.heap.size ≤ k_) ∧ some k_ ≠ (u168001 : Value).ownBlock ∧ some k_ ≠ (u168002 : Value).ownBlock ∧ some k_ ≠ (u178000 : Value).ownBlock ∧ some k_ ≠ (u178001 : Value).ownBlock ∧ some k_ ≠ (u178002 : Value).ownBlock) u168000 x168000_2) ∧ Aside0 (Kd.R (Kd.int .i64) 3 w' w.heap.size (fun k_ => (w.heap.size ≤ k_) ∧ some k_ ≠ (u168000 : Value).ownBlock ∧ some k_ ≠ (u168002 : Value).ownBlock ∧ some k_ ≠ (u178000 : Value).ownBlock ∧ some k_ ≠ (u178001 : Value).ownBlock ∧ some k_ ≠ (u178002 : Value).ownBlock) u168001 x168001_2) ∧ Aside0 (Kd.R (Kd.int .i64) 3 w' w.heap.size (fun k_ => (w.heap.size ≤ k_) ∧ some k_ ≠ (u168000 : Value).ownBlock ∧ some k_ ≠ (u168001 : Value).ownBlock ∧ some k_ ≠ (u178000 : Value).ownBlock ∧ some k_ ≠ (u178001 : Value).ownBlock ∧ some k_ ≠ (u178002 : Value).ownBlock) u168002 x168002_2) ∧ Aside0 (Kd.R (Kd.int .i64) 3 w' w.heap.size (fun k_ => (w.heap.size ≤ k_) ∧ some k_ ≠ (u168000 : Value).ownBlock ∧ some k_ ≠ (u168001 : Value).ownBlock ∧ some k_ ≠ (u168002 : Value).ownBlock ∧ some k_ ≠ (u178001 : Value).ownBlock ∧ some k_ ≠ (u178002 : Value).ownBlock) u178000 x178000_2) ∧ Aside0 (Kd.R (Kd.int .i64) 3 w' w.heap.size (fun k_ => (w.heap.size ≤ k_) ∧ some k_ ≠ (u168000 : Value).ownBlock ∧ some k_ ≠ (u168001 : Value).ownBlock ∧ some k_ ≠ (u168002 : Value).ownBlock ∧ some k_ ≠ (u178000 : Value).ownBlock ∧ some k_ ≠ (u178002 : Value).ownBlock) u178001 x178001_2) ∧ Aside0 (Kd.R (Kd.int .i64) 3 w' w.heap.size (fun k_ => (w.heap.size ≤ k_) ∧ some k_ ≠ (u168000 : Value).ownBlock ∧ some k_ ≠ (u168001 : Value).ownBlock ∧ some k_ ≠ (u168002 : Value).ownBlock ∧ some k_ ≠ (u178000 : Value).ownBlock ∧ some k_ ≠ (u178001 : Value).ownBlock) u178002 x178002_2) ∧ Aside0 (w'.heap[gb140]? = some (.cells #[.int .i64 0, .int .i64 0, (.slice none 0 0)] 32 (0, 0))) ∧ Aside0 (w'.heap[gb141]? = some (.cells #[.int .i64 11, .int .i64 2, u142002] 32 (0, 0))) ∧ Aside0 (w'.heap[gb167]? = some (.cells #[u168000, u168001, u168002] 40 (0, 0))) ∧ Aside0 (w'.heap[gb177]? = some (.cells #[u178000, u178001, u178002] 40 (0, 0))) ∧ Aside0 (Below w.heap.size w w'))
      case atStart => exact ⟨(0), (y178), (t161), (t164), (y179), (t171), (t174), (.slice (some ⟨go43, 0, none⟩) t158.length co48), (.slice Ao52 t161.length co52), (.slice Ao53 t164.length co53), (.slice (some ⟨go45, 0, none⟩) t168.length co56), (.slice Ao61 t171.length co61), (.slice Ao62 t174.length co62), rS, H', ⟨Nat.le_refl _⟩, ⟨by (with_reducible repeat (first | apply Kd.N_alloc | apply Kd.N_drewN | apply Kd.N_drew)); exact Kd.N_mono HO_142002.out (fun _ hk => ⟨hk.1.1, ⟨hk.1.2.1, ⟨hk.1.2.2.1, ⟨hk.1.2.2.2.1, ⟨hk.2, ⟨hk.1.2.2.2.2.1, ⟨hk.1.2.2.2.2.2.1, ⟨hk.1.2.2.2.2.2.2.1, ⟨hk.1.2.2.2.2.2.2.2.1, ⟨hk.1.2.2.2.2.2.2.2.2.1, hk.1.2.2.2.2.2.2.2.2.2⟩⟩⟩⟩⟩⟩⟩⟩⟩⟩)⟩, ⟨by (with_reducible repeat (first | apply Kd.R_alloc | apply Kd.R_drewN | apply Kd.R_drew)); exact Kd.R_mono HO160.out (fun _ hk => ⟨hk.1.1, ⟨hk.1.2.1, ⟨hk.1.2.2.1, ⟨hk.2, ⟨hk.1.2.2.2.1, hk.1.2.2.2.2⟩⟩⟩⟩⟩)⟩, ⟨by (with_reducible repeat (first | apply Kd.R_alloc | apply Kd.R_drewN | apply Kd.R_drew)); exact Kd.R_mono HO163.out (fun _ hk => ⟨hk.1.1, ⟨hk.1.2.1, ⟨hk.1.2.2.1, ⟨hk.2, ⟨hk.1.2.2.2.1, hk.1.2.2.2.2⟩⟩⟩⟩⟩)⟩, ⟨by (with_reducible repeat (first | apply Kd.R_alloc | apply Kd.R_drewN | apply Kd.R_drew)); exact Kd.R_mono HO166.out (fun _ hk => ⟨hk.1.1, ⟨hk.1.2.1, ⟨hk.1.2.2.1, ⟨hk.2, ⟨hk.1.2.2.2.1, hk.1.2.2.2.2⟩⟩⟩⟩⟩)⟩, ⟨rP HO170⟩, ⟨by (with_reducible repeat (first | apply Kd.R_alloc | apply Kd.R_drewN | apply Kd.R_drew)); exact Kd.R_mono HO173.out (fun _ hk => ⟨hk.1.1, ⟨hk.1.2.1, ⟨hk.1.2.2.1, ⟨hk.1.2.2.2.1, ⟨hk.2, hk.1.2.2.2.2⟩⟩⟩⟩⟩)⟩, ⟨by (with_reducible repeat (first | apply Kd.R_alloc | apply Kd.R_drewN | apply Kd.R_drew)); exact Kd.R_mono HO176.out (fun _ hk => ⟨hk.1.1, ⟨hk.1.2.1, ⟨hk.1.2.2.1, ⟨hk.1.2.2.2.1, ⟨hk.2, hk.1.2.2.2.2⟩⟩⟩⟩⟩)⟩, ⟨bP BK140⟩, ⟨bP BK141⟩, ⟨bP BK167⟩, ⟨bP BK177⟩, ⟨bZ HB⟩⟩
      case round =>
       clear H'
       try clear c1
       try clear p1
       try clear q1
       try clear hx1
       try clear hf1
       try clear c2
       try clear p2
       try clear c3
       try clear c4
       try clear p4
       try clear q4
       try clear hx4
       try clear qi4
       try clear hf4
       try clear c5
       try clear c5b0
       try clear p6
       try clear c8
       try clear c8b0
       try clear c9
       try clear c9b0
       try clear p10
       try clear q10
       try clear hx10
       try clear hf10
       try clear c11
       try clear c11b0
       try clear p12
       try clear q12
       try clear hx12
       try clear hf12
       try clear c13
       try clear c13b0
       try clear p14
       try clear q14
       try clear hx14
       try clear hf14
       try clear c15
       try clear c19
       try clear c20
       try clear c34
       try clear c42
       try clear c42b0
       try clear c42b1
       try clear p43
       try clear q43
       try clear hx43
       try clear qi43
       try clear hf43
       try clear c44
       try clear c44b0
       try clear c44b1
       try clear p45
       try clear q45
       try clear hx45
       try clear qi45
       try clear hf45
       try clear c49
       try clear c50
       try clear c57
       try clear c58
       try clear c59
       try clear p64
       try clear hcz21_0
       try clear hcz21_1
       try clear hcz21_2
       try clear hcz25_0
       try clear hcz25_1
       try clear hcz25_2
       try clear hcz28_0
       try clear hcz28_1
       try clear hcz28_2
       try clear hcz31_0
       try clear hcz31_1
       try clear hcz31_2
       try clear hcz35_0
       try clear hcz35_1
       try clear hcz35_2
       try clear hcz36_0
       try clear hcz36_1
       try clear hcz36_2
       try clear hcz39_0
       try clear hcz39_1
       try clear hcz39_2
       try clear hcz4_0
       try clear hcz4_1
       try clear hcz4_2
       try clear hcz51_0
       try clear hcz51_1
       try clear hcz51_2
       try clear hcz60_0
       try clear hcz60_1
       try clear hcz60_2
       try clear hcz64_0
       try clear hcz64_1
       try clear hcz64_2
       try clear hcz67_0
       try clear hcz67_1
       try clear hcz67_2
       try clear hfz21_0
       try clear hfz21_1
       try clear hfz21_2
       try clear hfz25_0
       try clear hfz25_1
       try clear hfz25_2
       try clear hfz28_0
       try clear hfz28_1
       try clear hfz28_2
       try clear hfz31_0
       try clear hfz31_1
       try clear hfz31_2
       try clear hfz35_0
       try clear hfz35_1
       try clear hfz35_2
       try clear hfz36_0
       try clear hfz36_1
       try clear hfz36_2
       try clear hfz39_0
       try clear hfz39_1
       try clear hfz39_2
       try clear hfz4_0
       try clear hfz4_1
       try clear hfz4_2
       try clear hfz51_0
       try clear hfz51_1
       try clear hfz51_2
       try clear hfz60_0
       try clear hfz60_1
       try clear hfz60_2
       try clear hfz64_0
       try clear hfz64_1
       try clear hfz64_2
       try clear hfz67_0
       try clear hfz67_1
       try clear hfz67_2
       try clear hx10_0
       try clear hx12_0
       try clear hx14_0
       try clear hx43_0
       try clear hx45_0
       try clear p10
       try clear p12
       try clear p14
       try clear p2
       try clear p43
       try clear p45
       try clear q10
       try clear q12
       try clear q14
       try clear q43
       try clear q45
       obtain ⟨x7_2, x168000_2, x168001_2, x168002_2, x178000_2, x178001_2, x178002_2, u168000, u168001, u168002, u178000, u178001, u178002, rfl, HA, HK2, HO_142002, HO_168000, HO_168001, HO_168002, HO_178000, HO_178001, HO_178002, BK140, BK141, BK167, BK177, HB⟩ := hrel
       cases gk with
       | zero => exact absurd HA.out (by simp [spec_CountSystem.l1])
       | succ k2 =>
        have H := HA.out
        clear HA
        simp only [spec_CountSystem.l1] at H
        by_cases c70 : x7_2 < 8
        ·rw [if_pos c70] at H
         have c70b0 := decide_eq_true c70
         clear c70
         obtain ⟨ji71, hji71⟩ : ∃ j_ : Int, (IntKind.u64.wrap (x7_2)) = j_ := ⟨_, rfl⟩
         replace H : (if 0 ≤ (ji71) then (if 0 ≤ (wrap64 (3 + x7_2)) then (if (wrap64 (3 + x7_2)) < (x168001_2.length : Int) then (if (wrap64 (3 + x7_2)) < (x178001_2.length : Int) then (spec_CountSystem.l1 k2 (wrap64 (x7_2 + 1)) 11 2 x142002_1 x168000_2 (x168001_2.set ((wrap64 (3 + x7_2)) : Int).toNat (shl .i64 1 (ji71))) x168002_2 x178000_2 (x178001_2.set ((wrap64 (3 + x7_2)) : Int).toNat 1) x178002_2) else (none)) else (none)) else (none)) else (none)) = some (r1, r2, r3) := by first | (rw [hji71] at H; exact H) | (simp only [hji71] at H ⊢; exact H)
         by_cases c72 : 0 ≤ (ji71)
         ·rw [if_pos c72] at H
          have c72b0 := eq_true c72
          have c72b1 := decide_eq_true c72
          clear c72
          obtain ⟨ji73, hji73⟩ : ∃ j_ : Int, (shl .i64 1 (ji71)) = j_ := ⟨_, rfl⟩
          replace H : (if 0 ≤ (wrap64 (3 + x7_2)) then (if (wrap64 (3 + x7_2)) < (x168001_2.length : Int) then (if (wrap64 (3 + x7_2)) < (x178001_2.length : Int) then (spec_CountSystem.l1 k2 (wrap64 (x7_2 + 1)) 11 2 x142002_1 x168000_2 (x168001_2.set ((wrap64 (3 + x7_2)) : Int).toNat (ji73)) x168002_2 x178000_2 (x178001_2.set ((wrap64 (3 + x7_2)) : Int).toNat 1) x178002_2) else (none)) else (none)) else (none)) = some (r1, r2, r3) := by first | (rw [hji73] at H; exact H) | (simp only [hji73] at H ⊢; exact H)
          have hji73_ : (IntKind.i64.wrap (1 * 2 ^ min (ji71).toNat 64)) = ji73 := hji73
          have hji73z : (ji71) ≤ 64 → (IntKind.i64.wrap (1 * 2 ^ (ji71).toNat)) = ji73 := shl_small hji73
          have hji73u : (IntKind.i64.wrap (2 ^ min (ji71).toNat 64)) = ji73 := by have h_ := hji73_; rw [Int.one_mul] at h_; exact h_
          have hji73v : (ji71) ≤ 64 → (IntKind.i64.wrap (2 ^ (ji71).toNat)) = ji73 := fun hle_ => by have h_ := hji73z hle_; rw [Int.one_mul] at h_; exact h_
          have hji73y : (wrap64 (1 * 2 ^ min (ji71).toNat 64)) = ji73 := (i64_w _).symm.trans hji73_
          have hji73x : (ji71) ≤ 64 → (wrap64 (1 * 2 ^ (ji71).toNat)) = ji73 := fun h_ => (i64_w _).symm.trans (hji73z h_)
          obtain ⟨ji74, hji74⟩ : ∃ j_ : Int, (wrap64 (3 + x7_2)) = j_ := ⟨_, rfl⟩
          replace H : (if 0 ≤ (ji74) then (if (ji74) < (x168001_2.length : Int) then (if (ji74) < (x178001_2.length : Int) then (spec_CountSystem.l1 k2 (wrap64 (x7_2 + 1)) 11 2 x142002_1 x168000_2 (x168001_2.set ((ji74) : Int).toNat (ji73)) x168002_2 x178000_2 (x178001_2.set ((ji74) : Int).toNat 1) x178002_2) else (none)) else (none)) else (none)) = some (r1, r2, r3) := by first | (rw [hji74] at H; exact H) | (simp only [hji74] at H ⊢; exact H)
          have hji74w : (IntKind.i64.wrap (3 + x7_2)) = ji74 := (i64_w _).trans hji74
          by_cases c75 : 0 ≤ (ji74)
          ·rw [if_pos c75] at H
           have c75b0 := decide_eq_true c75
           clear c75
           by_cases c76 : (ji74) < (x168001_2.length : Int)
           ·rw [if_pos c76] at H
            have c76b0 := decide_eq_true c76
            clear c76
            obtain ⟨y180, hy180⟩ : ∃ y_ : List Int, y_ = (x168001_2.set ((ji74) : Int).toNat (ji73)) := ⟨_, rfl⟩
            replace H : (if (ji74) < (x178001_2.length : Int) then (spec_CountSystem.l1 k2 (wrap64 (x7_2 + 1)) 11 2 x142002_1 x168000_2 y180 x168002_2 x178000_2 (x178001_2.set ((ji74) : Int).toNat 1) x178002_2) else (none)) = some (r1, r2, r3) := by first | (rw [hy180]; with_reducible exact H) | (have H2_ := (Option.bind_some _ _).symm.trans H; rw [hy180]; with_reducible exact H2_) | (have H2_ := (Option.bind_some _ _).symm.trans H; with_reducible exact H2_) | with_reducible exact H | (rw [hy180]; exact H) | exact H
            have Ny180 := Aside0.mk hy180
            clear hy180
            by_cases c78 : (ji74) < (x178001_2.length : Int)
            ·rw [if_pos c78] at H
             have c78b0 := decide_eq_true c78
             clear c78
             obtain ⟨y181, hy181⟩ : ∃ y_ : List Int, y_ = (x178001_2.set ((ji74) : Int).toNat 1) := ⟨_, rfl⟩
             replace H : (spec_CountSystem.l1 k2 (wrap64 (x7_2 + 1)) 11 2 x142002_1 x168000_2 y180 x168002_2 x178000_2 y181 x178002_2) = some (r1, r2, r3) := by first | (rw [hy181]; with_reducible exact H) | (have H2_ := (Option.bind_some _ _).symm.trans H; rw [hy181]; with_reducible exact H2_) | (have H2_ := (Option.bind_some _ _).symm.trans H; with_reducible exact H2_) | with_reducible exact H | (rw [hy181]; exact H) | exact H
             have Ny181 := Aside0.mk hy181
             clear hy181
             have H' := Aside0.mk H
             clear H
             obtain ⟨hnb80, hnc80⟩ := nB NB167_140
             obtain ⟨hnb81, hnc81⟩ := nB NB167_141
             obtain ⟨hnb82, hnc82⟩ := nB NB167_177
             obtain ⟨hcz83_0, hcz83_1, hcz83_2, hfz83_0, hfz83_1, hfz83_2⟩ := bK3 (w := wr) BK167
             have p77 : 0 ≤ ((ji74) : Int) := of_decide_eq_true (by first | (with_reducible assumption) | assumption)
             have q77 : ((ji74) : Int) < ((x168001_2.length : Int) : Int) := of_decide_eq_true (by first | (with_reducible assumption) | assumption)
             obtain ⟨go77, co77, eo77, gb77, gl77, cl77, HG77⟩ := Kd.R_form HO_168001.out (by omega)
             (first | cases eo77 | (injection eo77 with ea_ en_ ec_; (first | subst ea_ | (injection ea_ with ea_; subst ea_)); subst ec_; clear en_))
             have GB77 := Aside0.mk gb77
             have GG77 := Aside0.mk HG77
             clear gb77 gl77 HG77
             obtain ⟨hx77_0, hf77_0⟩ := Kd.R_celln 0 HO_168001.out ((ji74) : Int) p77 q77
             replace p77 := eq_true p77
             replace q77 := eq_true q77
             have HP84 := Kd.R_putg HO_168001.out ((ji74) : Int) ji73
             go_wp2_with (first | ((with_reducible refine gate_store (t := 3) (p := 58) rfl ?_); refine store_event (t := 3) (p := 58) (v := ?vo_w85) (w1 := (wr.setCell ⟨go77, ((ji74) : Int).toNat, none⟩ (.int .i64 ji73))) ?hg ?ho ?hn ?hr ?_; (case ho => rfl); (case hg => rfl); (case hn => rfl); (case hr => first | (go_simp; done) | (go_simp; rfl)); intro w85 hw; have hg : wr.grownBy w85 (some go77) := (by rw [hw]; exact HP84.2); have hp_ : Kd.R (Kd.int .i64) 3 w85 w.heap.size (fun k_ => (w.heap.size ≤ k_) ∧ some k_ ≠ (u168000 : Value).ownBlock ∧ some k_ ≠ (u168002 : Value).ownBlock ∧ some k_ ≠ (u178000 : Value).ownBlock ∧ some k_ ≠ (u178001 : Value).ownBlock ∧ some k_ ≠ (u178002 : Value).ownBlock) (.slice (some ⟨go77, 0, none⟩) x168001_2.length co77) y180 := (by rw [hw, Ny180.out]; exact HP84.1); clear HP84; replace HO_142002 := Aside0.mk (Kd.N_afterv (v := (.slice (some ⟨go77, 0, none⟩) x168001_2.length co77)) (v1 := (.slice (some ⟨go77, 0, none⟩) x168001_2.length co77)) (ok := (fun k_ => (w.heap.size ≤ k_) ∧ some k_ ≠ (u168000 : Value).ownBlock ∧ some k_ ≠ (u168002 : Value).ownBlock ∧ some k_ ≠ (u178000 : Value).ownBlock ∧ some k_ ≠ (u178001 : Value).ownBlock ∧ some k_ ≠ (u178002 : Value).ownBlock ∧ k_ ≠ gb140 ∧ k_ ≠ gb141 ∧ k_ ≠ gb167 ∧ k_ ≠ gb177)) (by (with_reducible repeat (first | apply Kd.N_alloc | apply Kd.N_drewN | apply Kd.N_drew)); exact Kd.N_mono HO_142002.out (fun _ hk => ⟨⟨hk.1, ⟨hk.2.1, ⟨hk.2.2.2.1, ⟨hk.2.2.2.2.1, ⟨hk.2.2.2.2.2.1, ⟨hk.2.2.2.2.2.2.1, ⟨hk.2.2.2.2.2.2.2.1, ⟨hk.2.2.2.2.2.2.2.2.1, ⟨hk.2.2.2.2.2.2.2.2.2.1, hk.2.2.2.2.2.2.2.2.2.2⟩⟩⟩⟩⟩⟩⟩⟩⟩, hk.2.2.1⟩)) hg (.inl rfl)); replace HO_168000 := Aside0.mk (Kd.R_after (v := (.slice (some ⟨go77, 0, none⟩) x168001_2.length co77)) (v1 := (.slice (some ⟨go77, 0, none⟩) x168001_2.length co77)) (ok := (fun k_ => (w.heap.size ≤ k_) ∧ some k_ ≠ (u168002 : Value).ownBlock ∧ some k_ ≠ (u178000 : Value).ownBlock ∧ some k_ ≠ (u178001 : Value).ownBlock ∧ some k_ ≠ (u178002 : Value).ownBlock)) (by (with_reducible repeat (first | apply Kd.R_alloc | apply Kd.R_drewN | apply Kd.R_drew)); exact Kd.R_mono HO_168000.out (fun _ hk => ⟨⟨hk.1, ⟨hk.2.2.1, ⟨hk.2.2.2.1, ⟨hk.2.2.2.2.1, hk.2.2.2.2.2⟩⟩⟩⟩, hk.2.1⟩)) hg (.inl rfl)); replace HO_168002 := Aside0.mk (Kd.R_after (v := (.slice (some ⟨go77, 0, none⟩) x168001_2.length co77)) (v1 := (.slice (some ⟨go77, 0, none⟩) x168001_2.length co77)) (ok := (fun k_ => (w.heap.size ≤ k_) ∧ some k_ ≠ (u168000 : Value).ownBlock ∧ some k_ ≠ (u178000 : Value).ownBlock ∧ some k_ ≠ (u178001 : Value).ownBlock ∧ some k_ ≠ (u178002 : Value).ownBlock)) (by (with_reducible repeat (first | apply Kd.R_alloc | apply Kd.R_drewN | apply Kd.R_drew)); exact Kd.R_mono HO_168002.out (fun _ hk => ⟨⟨hk.1, ⟨hk.2.1, ⟨hk.2.2.2.1, ⟨hk.2.2.2.2.1, hk.2.2.2.2.2⟩⟩⟩⟩, hk.2.2.1⟩)) hg (.inl rfl)); replace HO_178000 := Aside0.mk (Kd.R_after (v := (.slice (some ⟨go77, 0, none⟩) x168001_2.length co77)) (v1 := (.slice (some ⟨go77, 0, none⟩) x168001_2.length co77)) (ok := (fun k_ => (w.heap.size ≤ k_) ∧ some k_ ≠ (u168000 : Value).ownBlock ∧ some k_ ≠ (u168002 : Value).ownBlock ∧ some k_ ≠ (u178001 : Value).ownBlock ∧ some k_ ≠ (u178002 : Value).ownBlock)) (by (with_reducible repeat (first | apply Kd.R_alloc | apply Kd.R_drewN | apply Kd.R_drew)); exact Kd.R_mono HO_178000.out (fun _ hk => ⟨⟨hk.1, ⟨hk.2.1, ⟨hk.2.2.2.1, ⟨hk.2.2.2.2.1, hk.2.2.2.2.2⟩⟩⟩⟩, hk.2.2.1⟩)) hg (.inl rfl)); replace HO_178001 := Aside0.mk (Kd.R_after (v := (.slice (some ⟨go77, 0, none⟩) x168001_2.length co77)) (v1 := (.slice (some ⟨go77, 0, none⟩) x168001_2.length co77)) (ok := (fun k_ => (w.heap.size ≤ k_) ∧ some k_ ≠ (u168000 : Value).ownBlock ∧ some k_ ≠ (u168002 : Value).ownBlock ∧ some k_ ≠ (u178000 : Value).ownBlock ∧ some k_ ≠ (u178002 : Value).ownBlock)) (by (with_reducible repeat (first | apply Kd.R_alloc | apply Kd.R_drewN | apply Kd.R_drew)); exact Kd.R_mono HO_178001.out (fun _ hk => ⟨⟨hk.1, ⟨hk.2.1, ⟨hk.2.2.2.1, ⟨hk.2.2.2.2.1, hk.2.2.2.2.2⟩⟩⟩⟩, hk.2.2.1⟩)) hg (.inl rfl)); replace HO_178002 := Aside0.mk (Kd.R_after (v := (.slice (some ⟨go77, 0, none⟩) x168001_2.length co77)) (v1 := (.slice (some ⟨go77, 0, none⟩) x168001_2.length co77)) (ok := (fun k_ => (w.heap.size ≤ k_) ∧ some k_ ≠ (u168000 : Value).ownBlock ∧ some k_ ≠ (u168002 : Value).ownBlock ∧ some k_ ≠ (u178000 : Value).ownBlock ∧ some k_ ≠ (u178001 : Value).ownBlock)) (by (with_reducible repeat (first | apply Kd.R_alloc | apply Kd.R_drewN | apply Kd.R_drew)); exact Kd.R_mono HO_178002.out (fun _ hk => ⟨⟨hk.1, ⟨hk.2.1, ⟨hk.2.2.2.1, ⟨hk.2.2.2.2.1, hk.2.2.2.2.2⟩⟩⟩⟩, hk.2.2.1⟩)) hg (.inl rfl)); replace BK140 := Aside0.mk (blk_grown (bP BK140) hg (Kd.R_ne HO_168001.out BK140.out (by decide))); replace BK141 := Aside0.mk (blk_grown (bP BK141) hg (Kd.R_ne HO_168001.out BK141.out (by decide))); replace BK167 := Aside0.mk (blk_grown (bP BK167) hg (Kd.R_ne HO_168001.out BK167.out (by decide))); replace BK177 := Aside0.mk (blk_grown (bP BK177) hg (Kd.R_ne HO_168001.out BK177.out (by decide))); replace HO_168001 := Aside0.mk (hp_); replace HB := Aside0.mk ((by rw [hw]; exact below_set (HB.out) GB77.out : Below w.heap.size w w85)); clear hg hw hp_; obtain ⟨hnb86, hnc86⟩ := nB NB177_140; obtain ⟨hnb87, hnc87⟩ := nB NB177_141; obtain ⟨hcz88_0, hcz88_1, hcz88_2, hfz88_0, hfz88_1, hfz88_2⟩ := bK3 (w := w85) BK177; have p79 : 0 ≤ ((ji74) : Int) := of_decide_eq_true (by first | (with_reducible assumption) | assumption); have q79 : ((ji74) : Int) < ((x178001_2.length : Int) : Int) := of_decide_eq_true (by first | (with_reducible assumption) | assumption); obtain ⟨go79, co79, eo79, gb79, gl79, cl79, HG79⟩ := Kd.R_form HO_178001.out (by omega); (first | cases eo79 | (injection eo79 with ea_ en_ ec_; (first | subst ea_ | (injection ea_ with ea_; subst ea_)); subst ec_; clear en_)); have GB79 := Aside0.mk gb79; have GG79 := Aside0.mk HG79; clear gb79 gl79 HG79; obtain ⟨hx79_0, hf79_0⟩ := Kd.R_celln 0 HO_178001.out ((ji74) : Int) p79 q79; replace p79 := eq_true p79; replace q79 := eq_true q79; have n_ := Aside0.mk (Kd.R_mono (ok' := (fun k_ => (w.heap.size ≤ k_) ∧ some k_ ≠ (u168000 : Value).ownBlock ∧ some k_ ≠ (.slice (some ⟨go77, 0, none⟩) x168001_2.length co77 : Value).ownBlock ∧ some k_ ≠ (u168002 : Value).ownBlock ∧ some k_ ≠ (u178000 : Value).ownBlock ∧ some k_ ≠ (u178002 : Value).ownBlock)) HO_178001.out (fun k_ hk => ⟨hk.1.1, ⟨hk.1.2.1, ⟨hk.2, ⟨hk.1.2.2.1, ⟨hk.1.2.2.2.1, hk.1.2.2.2.2⟩⟩⟩⟩⟩)); clear HO_178001; have HO_178001 := n_; clear n_; obtain ⟨hy89_, hz89_⟩ := Kd.R_celln 0 HO_178001.out ((ji74) : Int) (of_decide_eq_true (by first | (with_reducible assumption) | assumption)) (of_decide_eq_true (by first | (with_reducible assumption) | assumption)); have HP89 := Kd.R_putg HO_178001.out ((ji74) : Int) 1) | ((with_reducible refine gate_store (t := 3) (p := 63) rfl ?_); refine store_event (t := 3) (p := 63) (v := ?vo_w90) (w1 := (w85.setCell ⟨go79, ((ji74) : Int).toNat, none⟩ (.int .i64 1))) ?hg ?ho ?hn ?hr ?_; (case ho => rfl); (case hg => rfl); (case hn => rfl); (case hr => first | (go_simp; done) | (go_simp; rfl)); intro w90 hw; have hg : w85.grownBy w90 (some go79) := (by rw [hw]; exact HP89.2); have hp_ : Kd.R (Kd.int .i64) 3 w90 w.heap.size (fun k_ => (w.heap.size ≤ k_) ∧ some k_ ≠ (u168000 : Value).ownBlock ∧ some k_ ≠ (.slice (some ⟨go77, 0, none⟩) x168001_2.length co77 : Value).ownBlock ∧ some k_ ≠ (u168002 : Value).ownBlock ∧ some k_ ≠ (u178000 : Value).ownBlock ∧ some k_ ≠ (u178002 : Value).ownBlock) (.slice (some ⟨go79, 0, none⟩) x178001_2.length co79) y181 := (by rw [hw, Ny181.out]; exact HP89.1); clear HP89; replace HO_142002 := Aside0.mk (Kd.N_afterv (v := (.slice (some ⟨go79, 0, none⟩) x178001_2.length co79)) (v1 := (.slice (some ⟨go79, 0, none⟩) x178001_2.length co79)) (ok := (fun k_ => (w.heap.size ≤ k_) ∧ some k_ ≠ (u168000 : Value).ownBlock ∧ some k_ ≠ (.slice (some ⟨go77, 0, none⟩) x168001_2.length co77 : Value).ownBlock ∧ some k_ ≠ (u168002 : Value).ownBlock ∧ some k_ ≠ (u178000 : Value).ownBlock ∧ some k_ ≠ (u178002 : Value).ownBlock ∧ k_ ≠ gb140 ∧ k_ ≠ gb141 ∧ k_ ≠ gb167 ∧ k_ ≠ gb177)) (by (with_reducible repeat (first | apply Kd.N_alloc | apply Kd.N_drewN | apply Kd.N_drew)); exact Kd.N_mono HO_142002.out (fun _ hk => ⟨⟨hk.1.1, ⟨hk.1.2.1, ⟨hk.2, ⟨hk.1.2.2.1, ⟨hk.1.2.2.2.1, ⟨hk.1.2.2.2.2.2.1, ⟨hk.1.2.2.2.2.2.2.1, ⟨hk.1.2.2.2.2.2.2.2.1, ⟨hk.1.2.2.2.2.2.2.2.2.1, hk.1.2.2.2.2.2.2.2.2.2⟩⟩⟩⟩⟩⟩⟩⟩⟩, hk.1.2.2.2.2.1⟩)) hg (.inl rfl)); replace HO_168000 := Aside0.mk (Kd.R_after (v := (.slice (some ⟨go79, 0, none⟩) x178001_2.length co79)) (v1 := (.slice (some ⟨go79, 0, none⟩) x178001_2.length co79)) (ok := (fun k_ => (w.heap.size ≤ k_) ∧ some k_ ≠ (.slice (some ⟨go77, 0, none⟩) x168001_2.length co77 : Value).ownBlock ∧ some k_ ≠ (u168002 : Value).ownBlock ∧ some k_ ≠ (u178000 : Value).ownBlock ∧ some k_ ≠ (u178002 : Value).ownBlock)) (by (with_reducible repeat (first | apply Kd.R_alloc | apply Kd.R_drewN | apply Kd.R_drew)); exact Kd.R_mono HO_168000.out (fun _ hk => ⟨⟨hk.1.1, ⟨hk.2, ⟨hk.1.2.1, ⟨hk.1.2.2.1, hk.1.2.2.2.2⟩⟩⟩⟩, hk.1.2.2.2.1⟩)) hg (.inl rfl)); replace HO_168001 := Aside0.mk (Kd.R_after (v := (.slice (some ⟨go79, 0, none⟩) x178001_2.length co79)) (v1 := (.slice (some ⟨go79, 0, none⟩) x178001_2.length co79)) (ok := (fun k_ => (w.heap.size ≤ k_) ∧ some k_ ≠ (u168000 : Value).ownBlock ∧ some k_ ≠ (u168002 : Value).ownBlock ∧ some k_ ≠ (u178000 : Value).ownBlock ∧ some k_ ≠ (u178002 : Value).ownBlock)) (by (with_reducible repeat (first | apply Kd.R_alloc | apply Kd.R_drewN | apply Kd.R_drew)); exact Kd.R_mono HO_168001.out (fun _ hk => ⟨⟨hk.1, ⟨hk.2.1, ⟨hk.2.2.1, ⟨hk.2.2.2.1, hk.2.2.2.2.2⟩⟩⟩⟩, hk.2.2.2.2.1⟩)) hg (.inl rfl)); replace HO_168002 := Aside0.mk (Kd.R_after (v := (.slice (some ⟨go79, 0, none⟩) x178001_2.length co79)) (v1 := (.slice (some ⟨go79, 0, none⟩) x178001_2.length co79)) (ok := (fun k_ => (w.heap.size ≤ k_) ∧ some k_ ≠ (u168000 : Value).ownBlock ∧ some k_ ≠ (.slice (some ⟨go77, 0, none⟩) x168001_2.length co77 : Value).ownBlock ∧ some k_ ≠ (u178000 : Value).ownBlock ∧ some k_ ≠ (u178002 : Value).ownBlock)) (by (with_reducible repeat (first | apply Kd.R_alloc | apply Kd.R_drewN | apply Kd.R_drew)); exact Kd.R_mono HO_168002.out (fun _ hk => ⟨⟨hk.1.1, ⟨hk.1.2.1, ⟨hk.2, ⟨hk.1.2.2.1, hk.1.2.2.2.2⟩⟩⟩⟩, hk.1.2.2.2.1⟩)) hg (.inl rfl)); replace HO_178000 := Aside0.mk (Kd.R_after (v := (.slice (some ⟨go79, 0, none⟩) x178001_2.length co79)) (v1 := (.slice (some ⟨go79, 0, none⟩) x178001_2.length co79)) (ok := (fun k_ => (w.heap.size ≤ k_) ∧ some k_ ≠ (u168000 : Value).ownBlock ∧ some k_ ≠ (.slice (some ⟨go77, 0, none⟩) x168001_2.length co77 : Value).ownBlock ∧ some k_ ≠ (u168002 : Value).ownBlock ∧ some k_ ≠ (u178002 : Value).ownBlock)) (by (with_reducible repeat (first | apply Kd.R_alloc | apply Kd.R_drewN | apply Kd.R_drew)); exact Kd.R_mono HO_178000.out (fun _ hk => ⟨⟨hk.1.1, ⟨hk.1.2.1, ⟨hk.2, ⟨hk.1.2.2.1, hk.1.2.2.2.2⟩⟩⟩⟩, hk.1.2.2.2.1⟩)) hg (.inl rfl)); replace HO_178002 := Aside0.mk (Kd.R_after (v := (.slice (some ⟨go79, 0, none⟩) x178001_2.length co79)) (v1 := (.slice (some ⟨go79, 0, none⟩) x178001_2.length co79)) (ok := (fun k_ => (w.heap.size ≤ k_) ∧ some k_ ≠ (u168000 : Value).ownBlock ∧ some k_ ≠ (.slice (some ⟨go77, 0, none⟩) x168001_2.length co77 : Value).ownBlock ∧ some k_ ≠ (u168002 : Value).ownBlock ∧ some k_ ≠ (u178000 : Value).ownBlock)) (by (with_reducible repeat (first | apply Kd.R_alloc | apply Kd.R_drewN | apply Kd.R_drew)); exact Kd.R_mono HO_178002.out (fun _ hk => ⟨⟨hk.1.1, ⟨hk.1.2.1, ⟨hk.2, ⟨hk.1.2.2.1, hk.1.2.2.2.1⟩⟩⟩⟩, hk.1.2.2.2.2⟩)) hg (.inl rfl)); replace BK140 := Aside0.mk (blk_grown (bP BK140) hg (Kd.R_ne HO_178001.out BK140.out (by decide))); replace BK141 := Aside0.mk (blk_grown (bP BK141) hg (Kd.R_ne HO_178001.out BK141.out (by decide))); replace BK167 := Aside0.mk (blk_grown (bP BK167) hg (Kd.R_ne HO_178001.out BK167.out (by decide))); replace BK177 := Aside0.mk (blk_grown (bP BK177) hg (Kd.R_ne HO_178001.out BK177.out (by decide))); replace HO_178001 := Aside0.mk (hp_); replace HB := Aside0.mk ((by rw [hw]; exact below_set (HB.out) GB79.out : Below w.heap.size w w90)); clear hg hw hp_))
             go_roundg k2
             case measure => have := HK1.out; have := HK2.out; omega
             case rel => exact ⟨(wrap64 (x7_2 + 1)), (x168000_2), (y180), (x168002_2), (x178000_2), (y181), (x178002_2), (u168000), (.slice (some ⟨go77, 0, none⟩) x168001_2.length co77), (u168002), (u178000), (.slice (some ⟨go79, 0, none⟩) x178001_2.length co79), (u178002), rS, H', ⟨by have := HK1.out; have := HK2.out; omega⟩, ⟨by (with_reducible repeat (first | apply Kd.N_alloc | apply Kd.N_drewN | apply Kd.N_drew)); exact Kd.N_mono HO_142002.out (fun _ hk => ⟨hk.1.1, ⟨hk.1.2.1, ⟨hk.1.2.2.1, ⟨hk.1.2.2.2.1, ⟨hk.1.2.2.2.2.1, ⟨hk.2, ⟨hk.1.2.2.2.2.2.1, ⟨hk.1.2.2.2.2.2.2.1, ⟨hk.1.2.2.2.2.2.2.2.1, ⟨hk.1.2.2.2.2.2.2.2.2.1, hk.1.2.2.2.2.2.2.2.2.2⟩⟩⟩⟩⟩⟩⟩⟩⟩⟩)⟩, ⟨by (with_reducible repeat (first | apply Kd.R_alloc | apply Kd.R_drewN | apply Kd.R_drew)); exact Kd.R_mono HO_168000.out (fun _ hk => ⟨hk.1.1, ⟨hk.1.2.1, ⟨hk.1.2.2.1, ⟨hk.1.2.2.2.1, ⟨hk.2, hk.1.2.2.2.2⟩⟩⟩⟩⟩)⟩, ⟨by (with_reducible repeat (first | apply Kd.R_alloc | apply Kd.R_drewN | apply Kd.R_drew)); exact Kd.R_mono HO_168001.out (fun _ hk => ⟨hk.1.1, ⟨hk.1.2.1, ⟨hk.1.2.2.1, ⟨hk.1.2.2.2.1, ⟨hk.2, hk.1.2.2.2.2⟩⟩⟩⟩⟩)⟩, ⟨by (with_reducible repeat (first | apply Kd.R_alloc | apply Kd.R_drewN | apply Kd.R_drew)); exact Kd.R_mono HO_168002.out (fun _ hk => ⟨hk.1.1, ⟨hk.1.2.1, ⟨hk.1.2.2.1, ⟨hk.1.2.2.2.1, ⟨hk.2, hk.1.2.2.2.2⟩⟩⟩⟩⟩)⟩, ⟨by (with_reducible repeat (first | apply Kd.R_alloc | apply Kd.R_drewN | apply Kd.R_drew)); exact Kd.R_mono HO_178000.out (fun _ hk => ⟨hk.1.1, ⟨hk.1.2.1, ⟨hk.1.2.2.1, ⟨hk.1.2.2.2.1, ⟨hk.2, hk.1.2.2.2.2⟩⟩⟩⟩⟩)⟩, ⟨rP HO_178001⟩, ⟨by (with_reducible repeat (first | apply Kd.R_alloc | apply Kd.R_drewN | apply Kd.R_drew)); exact Kd.R_mono HO_178002.out (fun _ hk => ⟨hk.1.1, ⟨hk.1.2.1, ⟨hk.1.2.2.1, ⟨hk.1.2.2.2.1, ⟨hk.1.2.2.2.2, hk.2⟩⟩⟩⟩⟩)⟩, ⟨bP BK140⟩, ⟨bP BK141⟩, ⟨bP BK167⟩, ⟨bP BK177⟩, ⟨bZ HB⟩⟩
            ·rw [if_neg c78] at H
             exact absurd H (by simp)
           ·rw [if_neg c76] at H
            exact absurd H (by simp)
          ·rw [if_neg c75] at H
           exact absurd H (by simp)
         ·rw [if_neg c72] at H
          exact absurd H (by simp)
        ·rw [if_neg c70] at H
         have c70b0 := decide_eq_false c70
         clear c70
         by_cases c91 : 1 < (x168002_2.length : Int)
         ·rw [if_pos c91] at H
          have c91b0 := decide_eq_true c91
          have c91b1 : decide (1 < x168002_2.length) = true := decide_eq_true (by omega)
          clear c91
          obtain ⟨y182, hy182⟩ : ∃ y_ : List Int, y_ = (x168002_2.set (1 : Int).toNat 1) := ⟨_, rfl⟩
          replace H : (if 2 < (x178002_2.length : Int) then ((some (([(⟨x168000_2, x168001_2, y182⟩ : S40), (⟨x178000_2, x178001_2, (x178002_2.set (2 : Int).toNat 1)⟩ : S40)] : List (S40)) : List (S40))).bind fun y184 => (if x142002_1.length + y184.length < 1954687338268 then (some (11, 2, (x142002_1 ++ y184))) else (none))) else (none)) = some (r1, r2, r3) := by first | (rw [hy182]; with_reducible exact H) | (have H2_ := (Option.bind_some _ _).symm.trans H; rw [hy182]; with_reducible exact H2_) | (have H2_ := (Option.bind_some _ _).symm.trans H; with_reducible exact H2_) | with_reducible exact H | (rw [hy182]; exact H) | exact H
          have Ny182 := Aside0.mk hy182
          clear hy182
          by_cases c93 : 2 < (x178002_2.length : Int)
          ·rw [if_pos c93] at H
           have c93b0 := decide_eq_true c93
           have c93b1 : decide (2 < x178002_2.length) = true := decide_eq_true (by omega)
           clear c93
           obtain ⟨y183, hy183⟩ : ∃ y_ : List Int, y_ = (x178002_2.set (2 : Int).toNat 1) := ⟨_, rfl⟩
           replace H : ((some (([(⟨x168000_2, x168001_2, y182⟩ : S40), (⟨x178000_2, x178001_2, y183⟩ : S40)] : List (S40)) : List (S40))).bind fun y184 => (if x142002_1.length + y184.length < 1954687338268 then (some (11, 2, (x142002_1 ++ y184))) else (none))) = some (r1, r2, r3) := by first | (rw [hy183]; with_reducible exact H) | (have H2_ := (Option.bind_some _ _).symm.trans H; rw [hy183]; with_reducible exact H2_) | (have H2_ := (Option.bind_some _ _).symm.trans H; with_reducible exact H2_) | with_reducible exact H | (rw [hy183]; exact H) | exact H
           have Ny183 := Aside0.mk hy183
           clear hy183
           obtain ⟨y184, hy184⟩ : ∃ y_ : List (S40), y_ = (([(⟨x168000_2, x168001_2, y182⟩ : S40), (⟨x178000_2, x178001_2, y183⟩ : S40)] : List (S40))) := ⟨_, rfl⟩
           replace H : (if x142002_1.length + y184.length < 1954687338268 then (some (11, 2, (x142002_1 ++ y184))) else (none)) = some (r1, r2, r3) := by first | (rw [hy184]; with_reducible exact H) | (have H2_ := (Option.bind_some _ _).symm.trans H; rw [hy184]; with_reducible exact H2_) | (have H2_ := (Option.bind_some _ _).symm.trans H; with_reducible exact H2_) | with_reducible exact H | (rw [hy184]; exact H) | exact H
           have Ny184 := Aside0.mk hy184
           clear hy184
           by_cases c95 : x142002_1.length + y184.length < 1954687338268
           ·rw [if_pos c95] at H
            have LMc95 := Aside0.mk c95
            clear c95
            obtain ⟨y187, hy187⟩ : ∃ y_ : List (S40), y_ = (x142002_1 ++ y184) := ⟨_, rfl⟩
            replace H : (some (11, 2, y187)) = some (r1, r2, r3) := by first | (rw [hy187]; with_reducible exact H) | (have H2_ := (Option.bind_some _ _).symm.trans H; rw [hy187]; with_reducible exact H2_) | (have H2_ := (Option.bind_some _ _).symm.trans H; with_reducible exact H2_) | with_reducible exact H | (rw [hy187]; exact H) | exact H
            have Ny187 := Aside0.mk hy187
            clear hy187
            simp only [Option.some.injEq, Prod.mk.injEq] at H
            obtain ⟨rfl, rfl, rfl⟩ := H
            obtain ⟨hnb96, hnc96⟩ := nB NB167_140
            obtain ⟨hnb97, hnc97⟩ := nB NB167_141
            obtain ⟨hnb98, hnc98⟩ := nB NB167_177
            obtain ⟨hcz99_0, hcz99_1, hcz99_2, hfz99_0, hfz99_1, hfz99_2⟩ := bK3 (w := wr) BK167
            have p92 : 0 ≤ (1 : Int) := (by omega)
            have q92 : (1 : Int) < ((x168002_2.length : Int) : Int) := of_decide_eq_true (by first | (with_reducible assumption) | assumption)
            have qi92 : (1 < x168002_2.length) = True := eq_true (by omega)
            obtain ⟨go92, co92, eo92, gb92, gl92, cl92, HG92⟩ := Kd.R_form HO_168002.out (by omega)
            (first | cases eo92 | (injection eo92 with ea_ en_ ec_; (first | subst ea_ | (injection ea_ with ea_; subst ea_)); subst ec_; clear en_))
            have GB92 := Aside0.mk gb92
            have GG92 := Aside0.mk HG92
            clear gb92 gl92 HG92
            obtain ⟨hx92_0, hf92_0⟩ := Kd.R_celln 0 HO_168002.out (1 : Int) p92 q92
            (try rw [show ((1 : Int)).toNat = 1 from rfl] at hx92_0)
            (try simp only [Nat.reduceMul, Nat.zero_mul, Nat.zero_add, Nat.reduceAdd] at hx92_0)
            (try rw [show ((1 : Int)).toNat = 1 from rfl] at hf92_0)
            (try simp only [Nat.reduceMul, Nat.zero_mul, Nat.zero_add, Nat.reduceAdd] at hf92_0)
            replace p92 := eq_true p92
            replace q92 := eq_true q92
            have HP100 := Kd.R_putg HO_168002.out (1 : Int) 1
            go_wp2_with (first | ((with_reducible refine gate_store (t := 3) (p := 66) rfl ?_); refine store_event (t := 3) (p := 66) (v := ?vo_w101) (w1 := (wr.setCell ⟨go92, (1 : Int).toNat, none⟩ (.int .i64 1))) ?hg ?ho ?hn ?hr ?_; (case ho => rfl); (case hg => rfl); (case hn => rfl); (case hr => first | (go_simp; done) | (go_simp; rfl)); intro w101 hw; have hg : wr.grownBy w101 (some go92) := (by rw [hw]; exact HP100.2); have hp_ : Kd.R (Kd.int .i64) 3 w101 w.heap.size (fun k_ => (w.heap.size ≤ k_) ∧ some k_ ≠ (u168000 : Value).ownBlock ∧ some k_ ≠ (u168001 : Value).ownBlock ∧ some k_ ≠ (u178000 : Value).ownBlock ∧ some k_ ≠ (u178001 : Value).ownBlock ∧ some k_ ≠ (u178002 : Value).ownBlock) (.slice (some ⟨go92, 0, none⟩) x168002_2.length co92) y182 := (by rw [hw, Ny182.out]; exact HP100.1); clear HP100; replace HO_142002 := Aside0.mk (Kd.N_afterv (v := (.slice (some ⟨go92, 0, none⟩) x168002_2.length co92)) (v1 := (.slice (some ⟨go92, 0, none⟩) x168002_2.length co92)) (ok := (fun k_ => (w.heap.size ≤ k_) ∧ some k_ ≠ (u168000 : Value).ownBlock ∧ some k_ ≠ (u168001 : Value).ownBlock ∧ some k_ ≠ (u178000 : Value).ownBlock ∧ some k_ ≠ (u178001 : Value).ownBlock ∧ some k_ ≠ (u178002 : Value).ownBlock ∧ k_ ≠ gb140 ∧ k_ ≠ gb141 ∧ k_ ≠ gb167 ∧ k_ ≠ gb177)) (by (with_reducible repeat (first | apply Kd.N_alloc | apply Kd.N_drewN | apply Kd.N_drew)); exact Kd.N_mono HO_142002.out (fun _ hk => ⟨⟨hk.1, ⟨hk.2.1, ⟨hk.2.2.1, ⟨hk.2.2.2.2.1, ⟨hk.2.2.2.2.2.1, ⟨hk.2.2.2.2.2.2.1, ⟨hk.2.2.2.2.2.2.2.1, ⟨hk.2.2.2.2.2.2.2.2.1, ⟨hk.2.2.2.2.2.2.2.2.2.1, hk.2.2.2.2.2.2.2.2.2.2⟩⟩⟩⟩⟩⟩⟩⟩⟩, hk.2.2.2.1⟩)) hg (.inl rfl)); replace HO_168000 := Aside0.mk (Kd.R_after (v := (.slice (some ⟨go92, 0, none⟩) x168002_2.length co92)) (v1 := (.slice (some ⟨go92, 0, none⟩) x168002_2.length co92)) (ok := (fun k_ => (w.heap.size ≤ k_) ∧ some k_ ≠ (u168001 : Value).ownBlock ∧ some k_ ≠ (u178000 : Value).ownBlock ∧ some k_ ≠ (u178001 : Value).ownBlock ∧ some k_ ≠ (u178002 : Value).ownBlock)) (by (with_reducible repeat (first | apply Kd.R_alloc | apply Kd.R_drewN | apply Kd.R_drew)); exact Kd.R_mono HO_168000.out (fun _ hk => ⟨⟨hk.1, ⟨hk.2.1, ⟨hk.2.2.2.1, ⟨hk.2.2.2.2.1, hk.2.2.2.2.2⟩⟩⟩⟩, hk.2.2.1⟩)) hg (.inl rfl)); replace HO_168001 := Aside0.mk (Kd.R_after (v := (.slice (some ⟨go92, 0, none⟩) x168002_2.length co92)) (v1 := (.slice (some ⟨go92, 0, none⟩) x168002_2.length co92)) (ok := (fun k_ => (w.heap.size ≤ k_) ∧ some k_ ≠ (u168000 : Value).ownBlock ∧ some k_ ≠ (u178000 : Value).ownBlock ∧ some k_ ≠ (u178001 : Value).ownBlock ∧ some k_ ≠ (u178002 : Value).ownBlock)) (by (with_reducible repeat (first | apply Kd.R_alloc | apply Kd.R_drewN | apply Kd.R_drew)); exact Kd.R_mono HO_168001.out (fun _ hk => ⟨⟨hk.1, ⟨hk.2.1, ⟨hk.2.2.2.1, ⟨hk.2.2.2.2.1, hk.2.2.2.2.2⟩⟩⟩⟩, hk.2.2.1⟩)) hg (.inl rfl)); replace HO_178000 := Aside0.mk (Kd.R_after (v := (.slice (some ⟨go92, 0, none⟩) x168002_2.length co92)) (v1 := (.slice (some ⟨go92, 0, none⟩) x168002_2.length co92)) (ok := (fun k_ => (w.heap.size ≤ k_) ∧ some k_ ≠ (u168000 : Value).ownBlock ∧ some k_ ≠ (u168001 : Value).ownBlock ∧ some k_ ≠ (u178001 : Value).ownBlock ∧ some k_ ≠ (u178002 : Value).ownBlock)) (by (with_reducible repeat (first | apply Kd.R_alloc | apply Kd.R_drewN | apply Kd.R_drew)); exact Kd.R_mono HO_178000.out (fun _ hk => ⟨⟨hk.1, ⟨hk.2.1, ⟨hk.2.2.1, ⟨hk.2.2.2.2.1, hk.2.2.2.2.2⟩⟩⟩⟩, hk.2.2.2.1⟩)) hg (.inl rfl)); replace HO_178001 := Aside0.mk (Kd.R_after (v := (.slice (some ⟨go92, 0, none⟩) x168002_2.length co92)) (v1 := (.slice (some ⟨go92, 0, none⟩) x168002_2.length co92)) (ok := (fun k_ => (w.heap.size ≤ k_) ∧ some k_ ≠ (u168000 : Value).ownBlock ∧ some k_ ≠ (u168001 : Value).ownBlock ∧ some k_ ≠ (u178000 : Value).ownBlock ∧ some k_ ≠ (u178002 : Value).ownBlock)) (by (with_reducible repeat (first | apply Kd.R_alloc | apply Kd.R_drewN | apply Kd.R_drew)); exact Kd.R_mono HO_178001.out (fun _ hk => ⟨⟨hk.1, ⟨hk.2.1, ⟨hk.2.2.1, ⟨hk.2.2.2.2.1, hk.2.2.2.2.2⟩⟩⟩⟩, hk.2.2.2.1⟩)) hg (.inl rfl)); replace HO_178002 := Aside0.mk (Kd.R_after (v := (.slice (some ⟨go92, 0, none⟩) x168002_2.length co92)) (v1 := (.slice (some ⟨go92, 0, none⟩) x168002_2.length co92)) (ok := (fun k_ => (w.heap.size ≤ k_) ∧ some k_ ≠ (u168000 : Value).ownBlock ∧ some k_ ≠ (u168001 : Value).ownBlock ∧ some k_ ≠ (u178000 : Value).ownBlock ∧ some k_ ≠ (u178001 : Value).ownBlock)) (by (with_reducible repeat (first | apply Kd.R_alloc | apply Kd.R_drewN | apply Kd.R_drew)); exact Kd.R_mono HO_178002.out (fun _ hk => ⟨⟨hk.1, ⟨hk.2.1, ⟨hk.2.2.1, ⟨hk.2.2.2.2.1, hk.2.2.2.2.2⟩⟩⟩⟩, hk.2.2.2.1⟩)) hg (.inl rfl)); replace BK140 := Aside0.mk (blk_grown (bP BK140) hg (Kd.R_ne HO_168002.out BK140.out (by decide))); replace BK141 := Aside0.mk (blk_grown (bP BK141) hg (Kd.R_ne HO_168002.out BK141.out (by decide))); replace BK167 := Aside0.mk (blk_grown (bP BK167) hg (Kd.R_ne HO_168002.out BK167.out (by decide))); replace BK177 := Aside0.mk (blk_grown (bP BK177) hg (Kd.R_ne HO_168002.out BK177.out (by decide))); replace HO_168002 := Aside0.mk (hp_); replace HB := Aside0.mk ((by rw [hw]; exact below_set (HB.out) GB92.out : Below w.heap.size w w101)); clear hg hw hp_; obtain ⟨hnb102, hnc102⟩ := nB NB177_140; obtain ⟨hnb103, hnc103⟩ := nB NB177_141; obtain ⟨hcz104_0, hcz104_1, hcz104_2, hfz104_0, hfz104_1, hfz104_2⟩ := bK3 (w := w101) BK177; have p94 : 0 ≤ (2 : Int) := (by omega); have q94 : (2 : Int) < ((x178002_2.length : Int) : Int) := of_decide_eq_true (by first | (with_reducible assumption) | assumption); have qi94 : (2 < x178002_2.length) = True := eq_true (by omega); obtain ⟨go94, co94, eo94, gb94, gl94, cl94, HG94⟩ := Kd.R_form HO_178002.out (by omega); (first | cases eo94 | (injection eo94 with ea_ en_ ec_; (first | subst ea_ | (injection ea_ with ea_; subst ea_)); subst ec_; clear en_)); have GB94 := Aside0.mk gb94; have GG94 := Aside0.mk HG94; clear gb94 gl94 HG94; obtain ⟨hx94_0, hf94_0⟩ := Kd.R_celln 0 HO_178002.out (2 : Int) p94 q94; (try rw [show ((2 : Int)).toNat = 2 from rfl] at hx94_0); (try simp only [Nat.reduceMul, Nat.zero_mul, Nat.zero_add, Nat.reduceAdd] at hx94_0); (try rw [show ((2 : Int)).toNat = 2 from rfl] at hf94_0); (try simp only [Nat.reduceMul, Nat.zero_mul, Nat.zero_add, Nat.reduceAdd] at hf94_0); replace p94 := eq_true p94; replace q94 := eq_true q94; have n_ := Aside0.mk (Kd.R_mono (ok' := (fun k_ => (w.heap.size ≤ k_) ∧ some k_ ≠ (u168000 : Value).ownBlock ∧ some k_ ≠ (u168001 : Value).ownBlock ∧ some k_ ≠ (.slice (some ⟨go92, 0, none⟩) x168002_2.length co92 : Value).ownBlock ∧ some k_ ≠ (u178000 : Value).ownBlock ∧ some k_ ≠ (u178001 : Value).ownBlock)) HO_178002.out (fun k_ hk => ⟨hk.1.1, ⟨hk.1.2.1, ⟨hk.1.2.2.1, ⟨hk.2, ⟨hk.1.2.2.2.1, hk.1.2.2.2.2⟩⟩⟩⟩⟩)); clear HO_178002; have HO_178002 := n_; clear n_; obtain ⟨hy105_, hz105_⟩ := Kd.R_celln 0 HO_178002.out (2 : Int) (by omega) (of_decide_eq_true (by first | (with_reducible assumption) | assumption)); (try simp only [Int.reduceToNat, Int.toNat_zero, Int.toNat_ofNat, Nat.reduceMul, Nat.zero_mul, Nat.zero_add] at hy105_ hz105_); (try rw [show ((2 : Int)).toNat = 2 from rfl] at hy105_); (try rw [show ((2 : Int)).toNat = 2 from rfl] at hz105_); have HP105 := Kd.R_putg HO_178002.out (2 : Int) 1) | ((with_reducible refine gate_store (t := 3) (p := 69) rfl ?_); refine store_event (t := 3) (p := 69) (v := ?vo_w106) (w1 := (w101.setCell ⟨go94, (2 : Int).toNat, none⟩ (.int .i64 1))) ?hg ?ho ?hn ?hr ?_; (case ho => rfl); (case hg => rfl); (case hn => rfl); (case hr => first | (go_simp; done) | (go_simp; rfl)); intro w106 hw; have hg : w101.grownBy w106 (some go94) := (by rw [hw]; exact HP105.2); have hp_ : Kd.R (Kd.int .i64) 3 w106 w.heap.size (fun k_ => (w.heap.size ≤ k_) ∧ some k_ ≠ (u168000 : Value).ownBlock ∧ some k_ ≠ (u168001 : Value).ownBlock ∧ some k_ ≠ (.slice (some ⟨go92, 0, none⟩) x168002_2.length co92 : Value).ownBlock ∧ some k_ ≠ (u178000 : Value).ownBlock ∧ some k_ ≠ (u178001 : Value).ownBlock) (.slice (some ⟨go94, 0, none⟩) x178002_2.length co94) y183 := (by rw [hw, Ny183.out]; exact HP105.1); clear HP105; replace HO_142002 := Aside0.mk (Kd.N_afterv (v := (.slice (some ⟨go94, 0, none⟩) x178002_2.length co94)) (v1 := (.slice (some ⟨go94, 0, none⟩) x178002_2.length co94)) (ok := (fun k_ => (w.heap.size ≤ k_) ∧ some k_ ≠ (u168000 : Value).ownBlock ∧ some k_ ≠ (u168001 : Value).ownBlock ∧ some k_ ≠ (.slice (some ⟨go92, 0, none⟩) x168002_2.length co92 : Value).ownBlock ∧ some k_ ≠ (u178000 : Value).ownBlock ∧ some k_ ≠ (u178001 : Value).ownBlock ∧ k_ ≠ gb140 ∧ k_ ≠ gb141 ∧ k_ ≠ gb167 ∧ k_ ≠ gb177)) (by (with_reducible repeat (first | apply Kd.N_alloc | apply Kd.N_drewN | apply Kd.N_drew)); exact Kd.N_mono HO_142002.out (fun _ hk => ⟨⟨hk.1.1, ⟨hk.1.2.1, ⟨hk.1.2.2.1, ⟨hk.2, ⟨hk.1.2.2.2.1, ⟨hk.1.2.2.2.2.1, ⟨hk.1.2.2.2.2.2.2.1, ⟨hk.1.2.2.2.2.2.2.2.1, ⟨hk.1.2.2.2.2.2.2.2.2.1, hk.1.2.2.2.2.2.2.2.2.2⟩⟩⟩⟩⟩⟩⟩⟩⟩, hk.1.2.2.2.2.2.1⟩)) hg (.inl rfl)); replace HO_168000 := Aside0.mk (Kd.R_after (v := (.slice (some ⟨go94, 0, none⟩) x178002_2.length co94)) (v1 := (.slice (some ⟨go94, 0, none⟩) x178002_2.length co94)) (ok := (fun k_ => (w.heap.size ≤ k_) ∧ some k_ ≠ (u168001 : Value).ownBlock ∧ some k_ ≠ (.slice (some ⟨go92, 0, none⟩) x168002_2.length co92 : Value).ownBlock ∧ some k_ ≠ (u178000 : Value).ownBlock ∧ some k_ ≠ (u178001 : Value).ownBlock)) (by (with_reducible repeat (first | apply Kd.R_alloc | apply Kd.R_drewN | apply Kd.R_drew)); exact Kd.R_mono HO_168000.out (fun _ hk => ⟨⟨hk.1.1, ⟨hk.1.2.1, ⟨hk.2, ⟨hk.1.2.2.1, hk.1.2.2.2.1⟩⟩⟩⟩, hk.1.2.2.2.2⟩)) hg (.inl rfl)); replace HO_168001 := Aside0.mk (Kd.R_after (v := (.slice (some ⟨go94, 0, none⟩) x178002_2.length co94)) (v1 := (.slice (some ⟨go94, 0, none⟩) x178002_2.length co94)) (ok := (fun k_ => (w.heap.size ≤ k_) ∧ some k_ ≠ (u168000 : Value).ownBlock ∧ some k_ ≠ (.slice (some ⟨go92, 0, none⟩) x168002_2.length co92 : Value).ownBlock ∧ some k_ ≠ (u178000 : Value).ownBlock ∧ some k_ ≠ (u178001 : Value).ownBlock)) (by (with_reducible repeat (first | apply Kd.R_alloc | apply Kd.R_drewN | apply Kd.R_drew)); exact Kd.R_mono HO_168001.out (fun _ hk => ⟨⟨hk.1.1, ⟨hk.1.2.1, ⟨hk.2, ⟨hk.1.2.2.1, hk.1.2.2.2.1⟩⟩⟩⟩, hk.1.2.2.2.2⟩)) hg (.inl rfl)); replace HO_168002 := Aside0.mk (Kd.R_after (v := (.slice (some ⟨go94, 0, none⟩) x178002_2.length co94)) (v1 := (.slice (some ⟨go94, 0, none⟩) x178002_2.length co94)) (ok := (fun k_ => (w.heap.size ≤ k_) ∧ some k_ ≠ (u168000 : Value).ownBlock ∧ some k_ ≠ (u168001 : Value).ownBlock ∧ some k_ ≠ (u178000 : Value).ownBlock ∧ some k_ ≠ (u178001 : Value).ownBlock)) (by (with_reducible repeat (first | apply Kd.R_alloc | apply Kd.R_drewN | apply Kd.R_drew)); exact Kd.R_mono HO_168002.out (fun _ hk => ⟨⟨hk.1, ⟨hk.2.1, ⟨hk.2.2.1, ⟨hk.2.2.2.1, hk.2.2.2.2.1⟩⟩⟩⟩, hk.2.2.2.2.2⟩)) hg (.inl rfl)); replace HO_178000 := Aside0.mk (Kd.R_after (v := (.slice (some ⟨go94, 0, none⟩) x178002_2.length co94)) (v1 := (.slice (some ⟨go94, 0, none⟩) x178002_2.length co94)) (ok := (fun k_ => (w.heap.size ≤ k_) ∧ some k_ ≠ (u168000 : Value).ownBlock ∧ some k_ ≠ (u168001 : Value).ownBlock ∧ some k_ ≠ (.slice (some ⟨go92, 0, none⟩) x168002_2.length co92 : Value).ownBlock ∧ some k_ ≠ (u178001 : Value).ownBlock)) (by (with_reducible repeat (first | apply Kd.R_alloc | apply Kd.R_drewN | apply Kd.R_drew)); exact Kd.R_mono HO_178000.out (fun _ hk => ⟨⟨hk.1.1, ⟨hk.1.2.1, ⟨hk.1.2.2.1, ⟨hk.2, hk.1.2.2.2.1⟩⟩⟩⟩, hk.1.2.2.2.2⟩)) hg (.inl rfl)); replace HO_178001 := Aside0.mk (Kd.R_after (v := (.slice (some ⟨go94, 0, none⟩) x178002_2.length co94)) (v1 := (.slice (some ⟨go94, 0, none⟩) x178002_2.length co94)) (ok := (fun k_ => (w.heap.size ≤ k_) ∧ some k_ ≠ (u168000 : Value).ownBlock ∧ some k_ ≠ (u168001 : Value).ownBlock ∧ some k_ ≠ (.slice (some ⟨go92, 0, none⟩) x168002_2.length co92 : Value).ownBlock ∧ some k_ ≠ (u178000 : Value).ownBlock)) (by (with_reducible repeat (first | apply Kd.R_alloc | apply Kd.R_drewN | apply Kd.R_drew)); exact Kd.R_mono HO_178001.out (fun _ hk => ⟨⟨hk.1.1, ⟨hk.1.2.1, ⟨hk.1.2.2.1, ⟨hk.2, hk.1.2.2.2.1⟩⟩⟩⟩, hk.1.2.2.2.2⟩)) hg (.inl rfl)); replace BK140 := Aside0.mk (blk_grown (bP BK140) hg (Kd.R_ne HO_178002.out BK140.out (by decide))); replace BK141 := Aside0.mk (blk_grown (bP BK141) hg (Kd.R_ne HO_178002.out BK141.out (by decide))); replace BK167 := Aside0.mk (blk_grown (bP BK167) hg (Kd.R_ne HO_178002.out BK167.out (by decide))); replace BK177 := Aside0.mk (blk_grown (bP BK177) hg (Kd.R_ne HO_178002.out BK177.out (by decide))); replace HO_178002 := Aside0.mk (hp_); replace HB := Aside0.mk ((by rw [hw]; exact below_set (HB.out) GB94.out : Below w.heap.size w w106)); clear hg hw hp_; obtain ⟨hnb107, hnc107⟩ := nB NB141_140; obtain ⟨hcz108_0, hcz108_1, hcz108_2, hfz108_0, hfz108_1, hfz108_2⟩ := bK3 (w := w106) BK141; obtain ⟨hcz109_0, hcz109_1, hcz109_2, hfz109_0, hfz109_1, hfz109_2⟩ := bK3 (w := w106) BK167; obtain ⟨hcz110_0, hcz110_1, hcz110_2, hfz110_0, hfz110_1, hfz110_2⟩ := bK3 (w := w106) BK177; obtain ⟨Ao111, co111, eo111⟩ := Kd.R_slice HO_168000.out; subst eo111; obtain ⟨Ao112, co112, eo112⟩ := Kd.R_slice HO_168001.out; subst eo112; obtain ⟨Ao113, co113, eo113⟩ := Kd.R_slice HO_178000.out; subst eo113; obtain ⟨Ao114, co114, eo114⟩ := Kd.R_slice HO_178001.out; subst eo114) | ((with_reducible refine gate_dst (N := 74) rfl ?_); refine Kd.N_lit k40 _ 40 ?hg (N' := 74) ?hd (xs := ([(⟨x168000_2, x168001_2, y182⟩ : S40), (⟨x178000_2, x178001_2, y183⟩ : S40)] : List (S40))) (inner := [.slice Ao111 x168000_2.length co111, .slice Ao112 x168001_2.length co112, .slice (some ⟨go92, 0, none⟩) x168002_2.length co92, .slice Ao113 x178000_2.length co113, .slice Ao114 x178001_2.length co114, .slice (some ⟨go94, 0, none⟩) x178002_2.length co94]) (ok := (fun k_ => (w.heap.size ≤ k_) ∧ some k_ ≠ (u142002 : Value).ownBlock ∧ k_ ≠ gb140 ∧ k_ ≠ gb141 ∧ k_ ≠ gb167 ∧ k_ ≠ gb177)) (okp := (fun k_ => (w.heap.size ≤ k_) ∧ some k_ ≠ (u142002 : Value).ownBlock ∧ k_ ≠ gb140 ∧ k_ ≠ gb141 ∧ k_ ≠ gb167 ∧ k_ ≠ gb177)) ?hr ?hp (fun _ hk => hk) ((show ∀ k_, w106.heap.size ≤ k_ → (fun k_ => (w.heap.size ≤ k_) ∧ some k_ ≠ (u142002 : Value).ownBlock ∧ k_ ≠ gb140 ∧ k_ ≠ gb141 ∧ k_ ≠ gb167 ∧ k_ ≠ gb177) k_ from fun k_ hk => ⟨(Nat.le_trans (below_size (bZ HB)) hk), Kd.fresh' (Kd.N_lt (by (with_reducible repeat (first | apply Kd.N_alloc | apply Kd.N_drewN | apply Kd.N_drew)); exact HO_142002.out)) k_ hk, Kd.freshB (bP BK140) k_ hk, Kd.freshB (bP BK141) k_ hk, Kd.freshB (bP BK167) k_ hk, Kd.freshB (bP BK177) k_ hk⟩) _ (Nat.le_refl _)) (Below.refl _ _) (Nat.le_refl _) (by simp) ?_; (case hd => rfl); (case hg => rfl); (case hr => first | (go_simp; done) | (go_simp; rfl)); (case hp => exact (Reps.c3 (show Kd.FK k40 _ _ (⟨x168000_2, x168001_2, y182⟩ : S40) [.slice Ao111 x168000_2.length co111, .slice Ao112 x168001_2.length co112, .slice (some ⟨go92, 0, none⟩) x168002_2.length co92] from (k40_mkFV _ _ _ (⟨x168000_2, x168001_2, y182⟩ : S40) (Kd.R_mono (ok' := (fun k_ => (w.heap.size ≤ k_) ∧ some k_ ≠ (u142002 : Value).ownBlock ∧ k_ ≠ gb140 ∧ k_ ≠ gb141 ∧ k_ ≠ gb167 ∧ k_ ≠ gb177)) (Kd.R_types (Kd.R_types (Kd.R_types (Kd.R_types (Kd.R_apart' (HO_168000.out) (Kd.N_typed HO_142002.out) (by decide)) BK140.out (by decide)) BK141.out (by decide)) BK167.out (by decide)) BK177.out (by decide)) (fun k_ hk => ⟨hk.1.1.1.1.1.1.1, ⟨hk.1.1.1.1.2, ⟨hk.1.1.1.2, ⟨hk.1.1.2, ⟨hk.1.2, hk.2⟩⟩⟩⟩⟩)) (Kd.R_mono (ok' := (fun k_ => (w.heap.size ≤ k_) ∧ some k_ ≠ (u142002 : Value).ownBlock ∧ k_ ≠ gb140 ∧ k_ ≠ gb141 ∧ k_ ≠ gb167 ∧ k_ ≠ gb177)) (Kd.R_types (Kd.R_types (Kd.R_types (Kd.R_types (Kd.R_apart' (HO_168001.out) (Kd.N_typed HO_142002.out) (by decide)) BK140.out (by decide)) BK141.out (by decide)) BK167.out (by decide)) BK177.out (by decide)) (fun k_ hk => ⟨hk.1.1.1.1.1.1.1, ⟨hk.1.1.1.1.2, ⟨hk.1.1.1.2, ⟨hk.1.1.2, ⟨hk.1.2, hk.2⟩⟩⟩⟩⟩)) (Kd.R_mono (ok' := (fun k_ => (w.heap.size ≤ k_) ∧ some k_ ≠ (u142002 : Value).ownBlock ∧ k_ ≠ gb140 ∧ k_ ≠ gb141 ∧ k_ ≠ gb167 ∧ k_ ≠ gb177)) (Kd.R_types (Kd.R_types (Kd.R_types (Kd.R_types (Kd.R_apart' (HO_168002.out) (Kd.N_typed HO_142002.out) (by decide)) BK140.out (by decide)) BK141.out (by decide)) BK167.out (by decide)) BK177.out (by decide)) (fun k_ hk => ⟨hk.1.1.1.1.1.1.1, ⟨hk.1.1.1.1.2, ⟨hk.1.1.1.2, ⟨hk.1.1.2, ⟨hk.1.2, hk.2⟩⟩⟩⟩⟩)))) (Reps.c3 (show Kd.FK k40 _ _ (⟨x178000_2, x178001_2, y183⟩ : S40) [.slice Ao113 x178000_2.length co113, .slice Ao114 x178001_2.length co114, .slice (some ⟨go94, 0, none⟩) x178002_2.length co94] from (k40_mkFV _ _ _ (⟨x178000_2, x178001_2, y183⟩ : S40) (Kd.R_mono (ok' := (fun k_ => (w.heap.size ≤ k_) ∧ some k_ ≠ (u142002 : Value).ownBlock ∧ k_ ≠ gb140 ∧ k_ ≠ gb141 ∧ k_ ≠ gb167 ∧ k_ ≠ gb177)) (Kd.R_types (Kd.R_types (Kd.R_types (Kd.R_types (Kd.R_apart' (HO_178000.out) (Kd.N_typed HO_142002.out) (by decide)) BK140.out (by decide)) BK141.out (by decide)) BK167.out (by decide)) BK177.out (by decide)) (fun k_ hk => ⟨hk.1.1.1.1.1.1.1, ⟨hk.1.1.1.1.2, ⟨hk.1.1.1.2, ⟨hk.1.1.2, ⟨hk.1.2, hk.2⟩⟩⟩⟩⟩)) (Kd.R_mono (ok' := (fun k_ => (w.heap.size ≤ k_) ∧ some k_ ≠ (u142002 : Value).ownBlock ∧ k_ ≠ gb140 ∧ k_ ≠ gb141 ∧ k_ ≠ gb167 ∧ k_ ≠ gb177)) (Kd.R_types (Kd.R_types (Kd.R_types (Kd.R_types (Kd.R_apart' (HO_178001.out) (Kd.N_typed HO_142002.out) (by decide)) BK140.out (by decide)) BK141.out (by decide)) BK167.out (by decide)) BK177.out (by decide)) (fun k_ hk => ⟨hk.1.1.1.1.1.1.1, ⟨hk.1.1.1.1.2, ⟨hk.1.1.1.2, ⟨hk.1.1.2, ⟨hk.1.2, hk.2⟩⟩⟩⟩⟩)) (Kd.R_mono (ok' := (fun k_ => (w.heap.size ≤ k_) ∧ some k_ ≠ (u142002 : Value).ownBlock ∧ k_ ≠ gb140 ∧ k_ ≠ gb141 ∧ k_ ≠ gb167 ∧ k_ ≠ gb177)) (Kd.R_types (Kd.R_types (Kd.R_types (Kd.R_types (Kd.R_apart' (HO_178002.out) (Kd.N_typed HO_142002.out) (by decide)) BK140.out (by decide)) BK141.out (by decide)) BK167.out (by decide)) BK177.out (by decide)) (fun k_ hk => ⟨hk.1.1.1.1.1.1, ⟨hk.1.1.1.1.2, ⟨hk.1.1.1.2, ⟨hk.1.1.2, ⟨hk.1.2, hk.2⟩⟩⟩⟩⟩)))) (Reps.none _ _)))); intro v185 w115 ho116 hb hg_ hnew_; clear hg_ hnew_; (first | rw [← Ny184.out] at ho116 | (simp only [Int.reduceToNat] at ho116; rw [← Ny184.out] at ho116)); replace HO_142002 := Aside0.mk (Kd.N_elder' (by (with_reducible repeat (first | apply Kd.N_alloc | apply Kd.N_drewN | apply Kd.N_drew)); exact HO_142002.out) (Kd.N_base ho116) hb); have HO186 := Aside0.mk (Kd.N_lower ho116 (below_size (bZ HB))); replace BK140 := bB BK140 hb; replace BK141 := bB BK141 hb; replace BK167 := bB BK167 hb; replace BK177 := bB BK177 hb; replace HB := bS HB hb; clear HO_168000 HO_168001 HO_168002 HO_178000 HO_178001 HO_178002; clear hb ho116; obtain ⟨Ao118, co118, eo118⟩ := Kd.N_slice HO186.out; subst eo118) | ((with_reducible refine gate_builtin (b := .append) (xs := #[.tmp 71, .tmp 74]) rfl ?_); at_builtin; refine Kd.N_append_rows k40 (w0 := w) w.heap.size rfl (.tmp 71) (.tmp 74) 30 40 (.agg #[(.slice none 0 0), (.slice none 0 0), (.slice none 0 0)]) 72 rfl Try.underlying30 info40 rfl (by decide) (by omega) u142002 x142002_1 y184 _ _ _ (fun k_ => (w.heap.size ≤ k_) ∧ k_ ≠ gb140 ∧ k_ ≠ gb141 ∧ k_ ≠ gb167 ∧ k_ ≠ gb177) (fun k_ => ((fun k_ => (w.heap.size ≤ k_) ∧ k_ ≠ gb140 ∧ k_ ≠ gb141 ∧ k_ ≠ gb167 ∧ k_ ≠ gb177)) k_ ∧ some k_ ≠ (u142002 : Value).ownBlock) rfl rfl ?aO ?aR (fun _ hk => hk) ?aF ?aB ?aS ?aL ?_; (case aR => exact (by skip; exact Kd.N_F (Kd.N_mono (ok' := (fun k_ => ((fun k_ => (w.heap.size ≤ k_) ∧ k_ ≠ gb140 ∧ k_ ≠ gb141 ∧ k_ ≠ gb167 ∧ k_ ≠ gb177)) k_ ∧ some k_ ≠ (u142002 : Value).ownBlock)) (HO186.out) (fun k_ hk => ⟨⟨hk.1, ⟨hk.2.2.1, ⟨hk.2.2.2.1, ⟨hk.2.2.2.2.1, hk.2.2.2.2.2⟩⟩⟩⟩, hk.2.1⟩)))); (case aB => exact (bZ HB)); (case aF => exact (fun k_ hk => ⟨(Nat.le_trans (below_size (bZ HB)) hk), Kd.freshB (bP BK140) k_ hk, Kd.freshB (bP BK141) k_ hk, Kd.freshB (bP BK167) k_ hk, Kd.freshB (bP BK177) k_ hk⟩)); (case aO => exact (by (with_reducible repeat (first | apply Kd.N_alloc | apply Kd.N_drewN | apply Kd.N_drew)); exact Kd.N_mono HO_142002.out (fun _ hk => ⟨hk.1.1.1, ⟨hk.1.1.2.2.2.2.2.2.1, ⟨hk.1.1.2.2.2.2.2.2.2.1, ⟨hk.1.1.2.2.2.2.2.2.2.2.1, hk.1.1.2.2.2.2.2.2.2.2.2⟩⟩⟩⟩))); (case aS => exact (below_size (bZ HB))); (case aL => have := LMc95.out; omega); intro v188 w117 ho hb hg hat; rw [← Ny187.out] at ho; replace BK140 := Aside0.mk (blk_grown (bP BK140) hg (Kd.N_ne HO_142002.out BK140.out (by decide))); replace BK141 := Aside0.mk (blk_grown (bP BK141) hg (Kd.N_ne HO_142002.out BK141.out (by decide))); replace BK167 := Aside0.mk (blk_grown (bP BK167) hg (Kd.N_away HO_142002.out (fun _ hk => hk.1.1.2.2.2.2.2.2.2.2.1))); replace BK177 := Aside0.mk (blk_grown (bP BK177) hg (Kd.N_away HO_142002.out (fun _ hk => hk.1.1.2.2.2.2.2.2.2.2.2))); replace HO186 := Aside0.mk (Kd.N_afterv (ok := (fun k_ => (w.heap.size ≤ k_) ∧ k_ ≠ gb140 ∧ k_ ≠ gb141 ∧ k_ ≠ gb167 ∧ k_ ≠ gb177)) (by (with_reducible repeat (first | apply Kd.N_alloc | apply Kd.N_drewN | apply Kd.N_drew)); exact Kd.N_mono HO186.out (fun _ hk => ⟨⟨hk.1, ⟨hk.2.2.1, ⟨hk.2.2.2.1, ⟨hk.2.2.2.2.1, hk.2.2.2.2.2⟩⟩⟩⟩, hk.2.1⟩)) hg hat); replace HB := Aside0.mk (hb); have HO189 := Aside0.mk (ho); clear HO_142002; clear ho hb hg hat; obtain ⟨Ao119, co119, eo119⟩ := Kd.N_slice HO189.out; subst eo119; obtain ⟨hcz120_0, hcz120_1, hcz120_2, hfz120_0, hfz120_1, hfz120_2⟩ := bK3 (w := w117) BK141; obtain ⟨hcz121_0, hcz121_1, hcz121_2, hfz121_0, hfz121_1, hfz121_2⟩ := bK3 (w := w117) BK140))
            refine rC gb140 32 #[.int .i64 11, .int .i64 2, .slice Ao119 y187.length co119] (bU BK140) Try.underlying32 ?_
            exact ⟨_, by first | rfl | (simp [errW_none, errW_some] <;> rfl) | (simp [*, errW_none, errW_some] <;> rfl), by (with_reducible repeat (first | apply Kd.N_alloc | apply Kd.N_drewN | apply Kd.N_drew)); exact Kd.N_mono (Kd.N_far (p := ⟨gb140, 2, none⟩) (Kd.N_far (p := ⟨gb140, 1, none⟩) (Kd.N_far (p := ⟨gb140, 0, none⟩) (Kd.N_far (p := ⟨gb141, 2, none⟩) (Kd.N_mono (Kd.N_mono HO189.out (fun k_ hk => (⟨hk, hk.2.2.1⟩ : _ ∧ k_ ≠ gb141))) (fun k_ hk => (⟨hk, hk.1.2.1⟩ : _ ∧ k_ ≠ gb140))) (fun _ hk => hk.1.2) (.slice Ao119 y187.length co119)) (fun _ hk => hk.2) (.int .i64 11)) (fun _ hk => hk.2) (.int .i64 2)) (fun _ hk => hk.2) (.slice Ao119 y187.length co119)) (fun _ hk => hk.1.1.1), bZ HB⟩
           ·rw [if_neg c95] at H
            exact absurd H (by simp)
          ·rw [if_neg c93] at H
           exact absurd H (by simp)
         ·rw [if_neg c91] at H
          exact absurd H (by simp)
     ·rw [if_neg c44] at H
      exact absurd H (by simp)
    ·rw [if_neg c42] at H
     exact absurd H (by simp)
end Go.Proofs.Ytcnejiflpioaiaa.Pf
end
section
namespace Go.Proofs.Ytcnejiflpioaiaa.Pf
open Go.RowKit Go.Proofs.YtcnejiflpioaiaaW.PrintWords Go.Proofs.YtcnejiflpioaiaaW.PrintLast Go.Proofs.YtcnejiflpioaiaaW.PrintMore
attribute [local go_sem] max2_int min2_int max_two min_two max_three min_three max_four min_four   -- for this text's walks alone
set_option linter.unusedVariables false
set_option linter.unusedSimpArgs false
def spec_l01In.f (a0 : Int) (a1 : Int) (a2 : Int) : Option (Bool) := if a0 ≥ a1 then (some (decide (a0 ≤ a2))) else (some false)
set_option maxHeartbeats 8000000 in
set_option maxRecDepth 100000 in
theorem spec_l01In.calls (a0 : Int) (a1 : Int) (a2 : Int) (r : Bool) (w : World) (h : spec_l01In.f a0 a1 a2 = some r) :
  Calls Try.prog 70 #[.int .i64 a0, .int .i64 a1, .int .i64 a2] w fun e w' => e = .returned (.bool r) ∧ Drawn0 w w' := by
 have H : (if a0 ≥ a1 then (some (decide (a0 ≤ a2))) else (some false)) = some r := h
 clear h
 by_cases c4 : a0 ≥ a1
 ·rw [if_pos c4] at H
  have c4b0 := decide_eq_true c4
  clear c4
  obtain rfl := Option.some.inj H
  go_enter Try.func70, Try.ntmps70
  go_wp2
  go_ret
  exact ⟨rS, rD⟩
 ·rw [if_neg c4] at H
  have c4b0 := decide_eq_false c4
  clear c4
  obtain rfl := Option.some.inj H
  go_enter Try.func70, Try.ntmps70
  go_wp2
  go_ret
  exact ⟨rS, rD⟩
def spec_CountBits.l0 : Nat → Int → Int → Int → Option (Int)
 | 0, _, _, _ => none
 | k + 1, x0, x3, x4 => if x4 < 8 then (if 0 ≤ (IntKind.u64.wrap (x4)) then (spec_CountBits.l0 k x0 (wrap64 (x3 + (Int.tmod (shr .i64 x0 (IntKind.u64.wrap (x4))) 2))) (wrap64 (x4 + 1))) else (none)) else (some x3)
def spec_CountBits.f (k : Nat) (a0 : Int) : Option (Int) := (spec_l01In.f a0 0 255).bind fun t190 => (if t190 = true then (spec_CountBits.l0 k a0 0 0) else (some 0))
theorem spec_CountBits.mono_l : ∀ k, (∀ y0 y1 y2, LeO (spec_CountBits.l0 k y0 y1 y2) (spec_CountBits.l0 (k + 1) y0 y1 y2))
 | 0 => fun _ _ _ r h => by simp [spec_CountBits.l0] at h
 | k + 1 => by
  have ih0 := spec_CountBits.mono_l k
  ·intro y0 y1 y2
   unfold spec_CountBits.l0
   with_reducible repeat' first | exact ih0 _ _ _ | exact LeO.refl _ | exact LeO.none _ | refine LeO.ite ?_ ?_ | refine LeO.bind ?_ (fun _ => ?_)
theorem spec_CountBits.mono : ∀ a0 k, LeO (spec_CountBits.f k a0) (spec_CountBits.f (k + 1) a0) := by
 intro a0 k
 have ih0 := spec_CountBits.mono_l k
 unfold spec_CountBits.f
 with_reducible repeat' first | exact ih0 _ _ _ | exact LeO.refl _ | exact LeO.none _ | refine LeO.ite ?_ ?_ | refine LeO.bind ?_ (fun _ => ?_)
set_option maxHeartbeats 8000000 in
set_option maxRecDepth 100000 in
theorem spec_CountBits.calls (k : Nat) (a0 : Int) (r : Int) (w : World) (h : spec_CountBits.f k a0 = some r) :
  Calls Try.prog 98 #[.int .i64 a0] w fun e w' => e = .returned (.int .i64 r) ∧ Drawn0 w w' := by
 have H : ((spec_l01In.f a0 0 255).bind fun t190 => (if t190 = true then (spec_CountBits.l0 k a0 0 0) else (some 0))) = some r := h
 clear h
 replace H := Option.bind_eq_some_iff.mp H
 obtain ⟨t190, A20, H⟩ := H
 have A2 := Aside0.mk A20
 clear A20
 by_cases c3 : t190 = true
 ·subst c3
  rw [if_pos rfl] at H
  have H' := Aside0.mk H
  clear H
  go_enter Try.func98, Try.ntmps98
  go_wp2_with (first | (refine gC (some 6) Try.func70 #[.int .i64 a0, .int .i64 0, .int .i64 255] ?_; (with_reducible refine (spec_l01In.calls a0 0 255 true _ A2.out).mono ?_); rintro e w' ⟨rfl, ⟨nd, rfl⟩⟩; refine ⟨_, rfl, ?_⟩))
  go_loopg [3, 4] k (fun kq v3 v4 w' => ∃ (x3_1 : Int) (x4_1 : Int), v3 = .int .i64 x3_1 ∧ v4 = .int .i64 x4_1 ∧ Aside0 (spec_CountBits.l0 kq a0 x3_1 x4_1 = some r) ∧ Aside0 (kq ≤ k) ∧ Drawn0 w w')
  case atStart => exact ⟨(0), (0), rS, rS, H', ⟨Nat.le_refl _⟩, by repeat (first | exact Drawn0.refl _ | apply Drawn0.step)⟩
  case round =>
   clear H'
   try clear p2
   try clear c3
   obtain ⟨x3_1, x4_1, rfl, rfl, HA, HK1, ⟨m1, rfl⟩⟩ := hrel
   cases gk with
   | zero => exact absurd HA.out (by simp [spec_CountBits.l0])
   | succ k1 =>
    have H := HA.out
    clear HA
    simp only [spec_CountBits.l0] at H
    by_cases c4 : x4_1 < 8
    ·rw [if_pos c4] at H
     have c4b0 := decide_eq_true c4
     clear c4
     obtain ⟨ji5, hji5⟩ : ∃ j_ : Int, (IntKind.u64.wrap (x4_1)) = j_ := ⟨_, rfl⟩
     replace H : (if 0 ≤ (ji5) then (spec_CountBits.l0 k1 a0 (wrap64 (x3_1 + (Int.tmod (shr .i64 a0 (ji5)) 2))) (wrap64 (x4_1 + 1))) else (none)) = some r := by first | (rw [hji5] at H; exact H) | (simp only [hji5] at H ⊢; exact H)
     by_cases c6 : 0 ≤ (ji5)
     ·rw [if_pos c6] at H
      have c6b0 := eq_true c6
      have c6b1 := decide_eq_true c6
      clear c6
      obtain ⟨ji7, hji7⟩ : ∃ j_ : Int, (shr .i64 a0 (ji5)) = j_ := ⟨_, rfl⟩
      replace H : (spec_CountBits.l0 k1 a0 (wrap64 (x3_1 + (Int.tmod (ji7) 2))) (wrap64 (x4_1 + 1))) = some r := by first | (rw [hji7] at H; exact H) | (simp only [hji7] at H ⊢; exact H)
      have hji7_ : (a0 / 2 ^ min (ji5).toNat 64) = ji7 := hji7
      have hji7z : (ji5) ≤ 64 → (a0 / 2 ^ (ji5).toNat) = ji7 := shr_small hji7
      have H' := Aside0.mk H
      clear H
      go_wp2
      go_roundg k1
      case measure => have := HK1.out; omega
      case rel => exact ⟨(wrap64 (x3_1 + (Int.tmod (ji7) 2))), (wrap64 (x4_1 + 1)), (by first | rfl | (simp; done) | (simp only [← hji7] <;> (first | rfl | simp)) | (simp [*]; done)), rS, H', ⟨by have := HK1.out; omega⟩, by repeat (first | exact Drawn0.refl _ | apply Drawn0.step)⟩
     ·rw [if_neg c6] at H
      exact absurd H (by simp)
    ·rw [if_neg c4] at H
     have c4b0 := decide_eq_false c4
     clear c4
     obtain rfl := Option.some.inj H
     go_wp2
     go_ret
     exact ⟨rS, rD⟩
 ·replace c3 := Bool.eq_false_iff.mpr c3
  subst c3
  rw [if_neg (show ¬ (false = true) by decide)] at H
  obtain rfl := Option.some.inj H
  go_enter Try.func98, Try.ntmps98
  go_wp2_with (first | (refine gC (some 6) Try.func70 #[.int .i64 a0, .int .i64 0, .int .i64 255] ?_; (with_reducible refine (spec_l01In.calls a0 0 255 false _ A2.out).mono ?_); rintro e w' ⟨rfl, ⟨nd, rfl⟩⟩; refine ⟨_, rfl, ?_⟩))
  go_ret
  exact ⟨rS, rD⟩
def spec_CountWitness.l0 : Nat → Int → List Int → Int → Option (List Int)
 | 0, _, _, _ => none
 | k + 1, x0, x3, x4 => if x4 < 8 then (if 0 ≤ (IntKind.u64.wrap (x4)) then (if x3.length < 17592186044416 then (spec_CountWitness.l0 k x0 (x3 ++ [Int.tmod (shr .i64 x0 (IntKind.u64.wrap (x4))) 2]) (wrap64 (x4 + 1))) else (none)) else (none)) else (some x3)
def spec_CountWitness.f (k : Nat) (a0 : Int) : Option (List Int) := (some (([] : List Int) : List Int)).bind fun y191 => ((spec_l01In.f a0 0 255).bind fun t194 => (if t194 = true then ((spec_CountBits.f k a0).bind fun t195 => ((some (([1, a0, t195] : List Int) : List Int)).bind fun y196 => (if y191.length + y196.length < 17592186044416 then (spec_CountWitness.l0 k a0 (y191 ++ y196) 0) else (none)))) else (some y191)))
theorem spec_CountWitness.mono_l : ∀ k, (∀ y0 y1 y2, LeO (spec_CountWitness.l0 k y0 y1 y2) (spec_CountWitness.l0 (k + 1) y0 y1 y2))
 | 0 => fun _ _ _ r h => by simp [spec_CountWitness.l0] at h
 | k + 1 => by
  have ih0 := spec_CountWitness.mono_l k
  ·intro y0 y1 y2
   unfold spec_CountWitness.l0
   with_reducible repeat' first | exact ih0 _ _ _ | exact spec_CountBits.mono _ _ | exact LeO.refl _ | exact LeO.none _ | refine LeO.ite ?_ ?_ | refine LeO.bind ?_ (fun _ => ?_)
theorem spec_CountWitness.mono : ∀ a0 k, LeO (spec_CountWitness.f k a0) (spec_CountWitness.f (k + 1) a0) := by
 intro a0 k
 have ih0 := spec_CountWitness.mono_l k
 unfold spec_CountWitness.f
 with_reducible repeat' first | exact ih0 _ _ _ | exact spec_CountBits.mono _ _ | exact LeO.refl _ | exact LeO.none _ | refine LeO.ite ?_ ?_ | refine LeO.bind ?_ (fun _ => ?_)
set_option maxHeartbeats 8000000 in
set_option maxRecDepth 100000 in
theorem spec_CountWitness.calls (k : Nat) (a0 : Int) (r : List Int) (w : World) (h : spec_CountWitness.f k a0 = some r) :
  Calls Try.prog 89 #[.int .i64 a0] w fun e w' => ∃ v0_ : Value, e = .returned (v0_) ∧ Kd.R (Kd.int .i64) 3 w' w.heap.size (fun _ => True) v0_ r ∧ Below w.heap.size w w' := by
 have HB := Aside0.mk (Below.refl w.heap.size w)
 have H : ((some (([] : List Int) : List Int)).bind fun y191 => ((spec_l01In.f a0 0 255).bind fun t194 => (if t194 = true then ((spec_CountBits.f k a0).bind fun t195 => ((some (([1, a0, t195] : List Int) : List Int)).bind fun y196 => (if y191.length + y196.length < 17592186044416 then (spec_CountWitness.l0 k a0 (y191 ++ y196) 0) else (none)))) else (some y191)))) = some r := h
 clear h
 obtain ⟨y191, hy191⟩ : ∃ y_ : List Int, y_ = (([] : List Int)) := ⟨_, rfl⟩
 replace H : ((spec_l01In.f a0 0 255).bind fun t194 => (if t194 = true then ((spec_CountBits.f k a0).bind fun t195 => ((some (([1, a0, t195] : List Int) : List Int)).bind fun y196 => (if y191.length + y196.length < 17592186044416 then (spec_CountWitness.l0 k a0 (y191 ++ y196) 0) else (none)))) else (some y191))) = some r := by first | (rw [hy191]; with_reducible exact H) | (have H2_ := (Option.bind_some _ _).symm.trans H; rw [hy191]; with_reducible exact H2_) | (have H2_ := (Option.bind_some _ _).symm.trans H; with_reducible exact H2_) | with_reducible exact H | (rw [hy191]; exact H) | exact H
 have Ny191 := Aside0.mk hy191
 clear hy191
 replace H := Option.bind_eq_some_iff.mp H
 obtain ⟨t194, A20, H⟩ := H
 have A2 := Aside0.mk A20
 clear A20
 by_cases c3 : t194 = true
 ·subst c3
  rw [if_pos rfl] at H
  replace H := Option.bind_eq_some_iff.mp H
  obtain ⟨t195, A40, H⟩ := H
  have A4 := Aside0.mk A40
  clear A40
  obtain ⟨y196, hy196⟩ : ∃ y_ : List Int, y_ = (([1, a0, t195] : List Int)) := ⟨_, rfl⟩
  replace H : (if y191.length + y196.length < 17592186044416 then (spec_CountWitness.l0 k a0 (y191 ++ y196) 0) else (none)) = some r := by first | (rw [hy196]; with_reducible exact H) | (have H2_ := (Option.bind_some _ _).symm.trans H; rw [hy196]; with_reducible exact H2_) | (have H2_ := (Option.bind_some _ _).symm.trans H; with_reducible exact H2_) | with_reducible exact H | (rw [hy196]; exact H) | exact H
  have Ny196 := Aside0.mk hy196
  clear hy196
  by_cases c5 : y191.length + y196.length < 17592186044416
  ·rw [if_pos c5] at H
   have LMc5 := Aside0.mk c5
   clear c5
   obtain ⟨y199, hy199⟩ : ∃ y_ : List Int, y_ = (y191 ++ y196) := ⟨_, rfl⟩
   replace H : (spec_CountWitness.l0 k a0 y199 0) = some r := by first | (rw [hy199]; with_reducible exact H) | (have H2_ := (Option.bind_some _ _).symm.trans H; rw [hy199]; with_reducible exact H2_) | (have H2_ := (Option.bind_some _ _).symm.trans H; with_reducible exact H2_) | with_reducible exact H | (rw [hy199]; exact H) | exact H
   have Ny199 := Aside0.mk hy199
   clear hy199
   have H' := Aside0.mk H
   clear H
   go_enter Try.func89, Try.ntmps89
   go_wp2_with (first | ((with_reducible refine gate_dst (N := 5) rfl ?_); refine Kd.R_lit (Kd.int .i64) _ 3 ?hg (N := 5) ?hd (xs := ([] : List Int)) (inner := []) (ok := fun _ => True) (okp := fun _ => True) ?hr ?hp (fun _ hk => hk) trivial (Below.refl _ _) (Nat.le_refl _) (by simp) ?_; (case hd => rfl); (case hg => rfl); (case hr => first | (go_simp; done) | (go_simp; rfl)); (case hp => exact (Reps.none _ _)); intro v192 w6 ho7 hb hg_ hnew_; clear hg_ hnew_; (first | rw [← Ny191.out] at ho7 | (simp only [Int.reduceToNat] at ho7; rw [← Ny191.out] at ho7)); have HO193 := Aside0.mk (Kd.R_lower ho7 (below_size (bZ HB))); replace HB := bS HB hb; clear hb ho7) | (refine gC (some 7) Try.func70 #[.int .i64 a0, .int .i64 0, .int .i64 255] ?_; (with_reducible refine (spec_l01In.calls a0 0 255 true _ A2.out).mono ?_); rintro e w' ⟨rfl, ⟨nd, rfl⟩⟩; refine ⟨_, rfl, ?_⟩) | (refine gC (some 13) Try.func98 #[.int .i64 a0] ?_; (with_reducible refine (spec_CountBits.calls k a0 t195 _ A4.out).mono ?_); rintro e w' ⟨rfl, ⟨nd, rfl⟩⟩; refine ⟨_, rfl, ?_⟩) | ((with_reducible refine gate_dst (N := 14) rfl ?_); refine Kd.R_lit (Kd.int .i64) _ 3 ?hg (N := 14) ?hd (xs := ([1, a0, t195] : List Int)) (inner := [.int .i64 1, .int .i64 a0, .int .i64 t195]) (ok := fun _ => True) (okp := fun _ => True) ?hr ?hp (fun _ hk => hk) trivial (Below.refl _ _) (Nat.le_refl _) (by simp) ?_; (case hd => rfl); (case hg => rfl); (case hr => first | (go_simp; done) | (go_simp; rfl)); (case hp => exact (Reps.one (show Kd.M (Kd.int .i64) _ _ _ 1 [.int .i64 1] from rfl) (Reps.one (show Kd.M (Kd.int .i64) _ _ _ a0 [.int .i64 a0] from rfl) (Reps.one (show Kd.M (Kd.int .i64) _ _ _ t195 [.int .i64 t195] from rfl) (Reps.none _ _))))); intro v197 w8 ho9 hb hg_ hnew_; clear hg_ hnew_; (first | rw [← Ny196.out] at ho9 | (simp only [Int.reduceToNat] at ho9; rw [← Ny196.out] at ho9)); have HO198 := Aside0.mk (Kd.R_lower (Kd.R_new' ho9 (Kd.R_lt (rP HO193))) (below_size (bZ HB))); replace HO193 := Aside0.mk (Kd.R_elder' (rP HO193) (Kd.R_base ho9) hb); replace HB := bS HB hb; clear hb ho9; obtain ⟨Ao11, co11, eo11⟩ := Kd.R_slice HO198.out; subst eo11) | ((with_reducible refine gate_builtin (b := .append) (xs := #[.tmp 10, .tmp 14]) rfl ?_); at_builtin; refine Kd.R_append_rows (Kd.int .i64) (w0 := w) w.heap.size rfl (.tmp 10) (.tmp 14) 22 3 (.int .i64 0) 8 rfl Try.underlying22 info3 rfl (by decide) (by omega) v192 y191 y196 _ _ _ (fun k_ => some k_ ≠ (.slice Ao11 y196.length co11 : Value).ownBlock) (fun _ => False) rfl rfl ?aO ?aR (fun _ _ h => h) (fun _ h => h.elim) ?aF ?aB ?aS ?aL ?_; (case aR => exact cP ((Kd.R_reads' HO198.out).2.2)); (case aB => exact (bZ HB)); (case aF => exact (fun k_ hk => Kd.fresh' (Kd.R_lt (rP HO198)) k_ hk)); (case aO => exact (by (with_reducible repeat (first | apply Kd.R_alloc | apply Kd.R_drewN | apply Kd.R_drew)); exact Kd.R_mono HO193.out (fun _ hk => hk.2))); (case aS => exact (below_size (bZ HB))); (case aL => have := LMc5.out; omega); intro v200 w10 ho hb hg hat; rw [← Ny199.out] at ho; replace HO198 := Aside0.mk (Kd.R_after (ok := (fun _ => True)) (rP HO198) hg hat); replace HB := Aside0.mk (hb); have HO201 := Aside0.mk (ho); clear HO193; clear ho hb hg hat))
   go_loopg [3, 4] k (fun kq v3 v4 w' => ∃ (x3_1 : List Int) (x4_1 : Int), v4 = .int .i64 x4_1 ∧ Aside0 (spec_CountWitness.l0 kq a0 x3_1 x4_1 = some r) ∧ Aside0 (kq ≤ k) ∧ Aside0 (Kd.R (Kd.int .i64) 3 w' w.heap.size (fun _ => True) v3 x3_1) ∧ Aside0 (Below w.heap.size w w'))
   case atStart => exact ⟨(y199), (0), rS, H', ⟨Nat.le_refl _⟩, ⟨by (with_reducible repeat (first | apply Kd.R_alloc | apply Kd.R_drewN | apply Kd.R_drew)); exact Kd.R_mono HO201.out (fun _ hk => trivial)⟩, ⟨bZ HB⟩⟩
   case round =>
    clear H'
    try clear p2
    try clear c3
    try clear c5
    try clear c7
    try clear c8
    try clear c9
    obtain ⟨x3_1, x4_1, rfl, HA, HK1, HO_3, HB⟩ := hrel
    cases gk with
    | zero => exact absurd HA.out (by simp [spec_CountWitness.l0])
    | succ k1 =>
     have H := HA.out
     clear HA
     simp only [spec_CountWitness.l0] at H
     by_cases c12 : x4_1 < 8
     ·rw [if_pos c12] at H
      have c12b0 := decide_eq_true c12
      clear c12
      obtain ⟨ji13, hji13⟩ : ∃ j_ : Int, (IntKind.u64.wrap (x4_1)) = j_ := ⟨_, rfl⟩
      replace H : (if 0 ≤ (ji13) then (if x3_1.length < 17592186044416 then (spec_CountWitness.l0 k1 a0 (x3_1 ++ [Int.tmod (shr .i64 a0 (ji13)) 2]) (wrap64 (x4_1 + 1))) else (none)) else (none)) = some r := by first | (rw [hji13] at H; exact H) | (simp only [hji13] at H ⊢; exact H)
      by_cases c14 : 0 ≤ (ji13)
      ·rw [if_pos c14] at H
       have c14b0 := eq_true c14
       have c14b1 := decide_eq_true c14
       clear c14
       obtain ⟨ji15, hji15⟩ : ∃ j_ : Int, (shr .i64 a0 (ji13)) = j_ := ⟨_, rfl⟩
       replace H : (if x3_1.length < 17592186044416 then (spec_CountWitness.l0 k1 a0 (x3_1 ++ [Int.tmod (ji15) 2]) (wrap64 (x4_1 + 1))) else (none)) = some r := by first | (rw [hji15] at H; exact H) | (simp only [hji15] at H ⊢; exact H)
       have hji15_ : (a0 / 2 ^ min (ji13).toNat 64) = ji15 := hji15
       have hji15z : (ji13) ≤ 64 → (a0 / 2 ^ (ji13).toNat) = ji15 := shr_small hji15
       by_cases c16 : x3_1.length < 17592186044416
       ·rw [if_pos c16] at H
        have LMc16 := Aside0.mk c16
        clear c16
        obtain ⟨y202, hy202⟩ : ∃ y_ : List Int, y_ = (x3_1 ++ [Int.tmod (ji15) 2]) := ⟨_, rfl⟩
        replace H : (spec_CountWitness.l0 k1 a0 y202 (wrap64 (x4_1 + 1))) = some r := by first | (rw [hy202]; with_reducible exact H) | (have H2_ := (Option.bind_some _ _).symm.trans H; rw [hy202]; with_reducible exact H2_) | (have H2_ := (Option.bind_some _ _).symm.trans H; with_reducible exact H2_) | with_reducible exact H | (rw [hy202]; exact H) | exact H
        have Ny202 := Aside0.mk hy202
        clear hy202
        have H' := Aside0.mk H
        clear H
        go_wp2_with (first | ((with_reducible refine gate_builtin (b := .append) (xs := #[.tmp 20, .tmp 26]) rfl ?_); at_builtin; refine Kd.R_append (Kd.int .i64) (w0 := w) w.heap.size rfl (.tmp 20) (.tmp 26) 22 3 (.int .i64 0) 8 rfl Try.underlying22 info3 rfl (by decide) (by omega) u3 x3_1 (Int.tmod (ji15) 2) [.int .i64 (Int.tmod (ji15) 2)] (fun _ => True) (fun _ => False) rfl rfl ?aP (fun _ hk => hk.elim) ?aF ?aO ?aB ?aS ?aL ?_; (case aP => exact rfl); (case aB => exact (bZ HB)); (case aF => exact (fun _ _ => trivial)); (case aO => exact (rP HO_3)); (case aS => exact (below_size (bZ HB))); (case aL => have := LMc16.out; omega); intro v203 w17 ho hb hg hat; rw [← Ny202.out] at ho; replace HB := Aside0.mk (hb); have HO204 := Aside0.mk (ho); clear HO_3; clear ho hb hg hat))
        go_roundg k1
        case measure => have := HK1.out; omega
        case rel => exact ⟨(y202), (wrap64 (x4_1 + 1)), rS, H', ⟨by have := HK1.out; omega⟩, ⟨rP HO204⟩, ⟨bZ HB⟩⟩
       ·rw [if_neg c16] at H
        exact absurd H (by simp)
      ·rw [if_neg c14] at H
       exact absurd H (by simp)
     ·rw [if_neg c12] at H
      have c12b0 := decide_eq_false c12
      clear c12
      obtain rfl := Option.some.inj H
      go_wp2
      go_ret
      exact ⟨_, by first | rfl | (simp [errW_none, errW_some] <;> rfl) | (simp [*, errW_none, errW_some] <;> rfl), by (with_reducible repeat (first | apply Kd.R_alloc | apply Kd.R_drewN | apply Kd.R_drew)); exact HO_3.out, bZ HB⟩
  ·rw [if_neg c5] at H
   exact absurd H (by simp)
 ·replace c3 := Bool.eq_false_iff.mpr c3
  subst c3
  rw [if_neg (show ¬ (false = true) by decide)] at H
  obtain rfl := Option.some.inj H
  go_enter Try.func89, Try.ntmps89
  go_wp2_with (first | ((with_reducible refine gate_dst (N := 5) rfl ?_); refine Kd.R_lit (Kd.int .i64) _ 3 ?hg (N := 5) ?hd (xs := ([] : List Int)) (inner := []) (ok := fun _ => True) (okp := fun _ => True) ?hr ?hp (fun _ hk => hk) trivial (Below.refl _ _) (Nat.le_refl _) (by simp) ?_; (case hd => rfl); (case hg => rfl); (case hr => first | (go_simp; done) | (go_simp; rfl)); (case hp => exact (Reps.none _ _)); intro v192 w18 ho19 hb hg_ hnew_; clear hg_ hnew_; (first | rw [← Ny191.out] at ho19 | (simp only [Int.reduceToNat] at ho19; rw [← Ny191.out] at ho19)); have HO193 := Aside0.mk (Kd.R_lower ho19 (below_size (bZ HB))); replace HB := bS HB hb; clear hb ho19) | (refine gC (some 7) Try.func70 #[.int .i64 a0, .int .i64 0, .int .i64 255] ?_; (with_reducible refine (spec_l01In.calls a0 0 255 false _ A2.out).mono ?_); rintro e w' ⟨rfl, ⟨nd, rfl⟩⟩; refine ⟨_, rfl, ?_⟩))
  go_ret
  exact ⟨_, by first | rfl | (simp [errW_none, errW_some] <;> rfl) | (simp [*, errW_none, errW_some] <;> rfl), by (with_reducible repeat (first | apply Kd.R_alloc | apply Kd.R_drewN | apply Kd.R_drew)); exact HO193.out, bZ HB⟩
def spec_l01PickInt.f (s0_0 : List Int) (s0_1 : Int) (s0_2 : Int) (l1 : List Int) : Option (Int × Int × Int) := (spec_l01Below.f s0_0 s0_1 s0_2 (l1.length : Int)).bind fun bt205 => (if 0 ≤ bt205.1 then (if bt205.1 < (l1.length : Int) then (some (rd l1 bt205.1, bt205.2.1, bt205.2.2)) else (none)) else (none))
set_option maxHeartbeats 8000000 in
set_option maxRecDepth 100000 in
theorem spec_l01PickInt.calls (g : Nat) (s0_0 : List Int) (s0_1 : Int) (s0_2 : Int) (A1 : Option Addr) (c1 : Nat) (l1 : List Int) (r1 : Int) (r2 : Int) (r3 : Int) (w0 w : World) (hI : IsS88 w0 w g s0_0 s0_1 s0_2) (hB : Below w0.heap.size w0 w) (hr1 : Kd.C (Kd.int .i64) w A1 l1.length l1) (hc1 : l1.length ≤ c1) (hf1 : ∀ ad, A1 = some ad → 0 < l1.length → ad.block ≠ g) (h : spec_l01PickInt.f s0_0 s0_1 s0_2 l1 = some (r1, r2, r3)) :
  Calls Try.prog 99 #[.pointer (some ⟨g, 0, none⟩), .slice A1 l1.length c1] w fun e w' => e = .returned (.int .i64 r1) ∧ IsS88 w0 w' g s0_0 r2 r3 ∧ Below w0.heap.size w0 w' ∧ KeepBut w w' g none := by
 have HR1 := Aside0.mk hr1
 have HC1 := Aside0.mk hc1
 clear hr1 hc1
 have HI0 := Aside0.mk hI
 have HK := Aside0.mk (KeepBut.refl w g none)
 have HL := Aside0.mk hB.size
 clear hI
 have HW0 := Aside0.mk hB.size
 have HB := Aside0.mk hB
 clear hB
 have H : ((spec_l01Below.f s0_0 s0_1 s0_2 (l1.length : Int)).bind fun bt205 => (if 0 ≤ bt205.1 then (if bt205.1 < (l1.length : Int) then (some (rd l1 bt205.1, bt205.2.1, bt205.2.2)) else (none)) else (none))) = some (r1, r2, r3) := h
 clear h
 replace H := Option.bind_eq_some_iff.mp H
 obtain ⟨⟨t205, t206, t207⟩, A30, H⟩ := H
 have A3 := Aside0.mk A30
 clear A30
 by_cases c4 : 0 ≤ t205
 ·rw [if_pos c4] at H
  have c4b0 := decide_eq_true c4
  clear c4
  by_cases c5 : t205 < (l1.length : Int)
  ·rw [if_pos c5] at H
   have c5b0 := decide_eq_true c5
   clear c5
   simp only [Option.some.injEq, Prod.mk.injEq] at H
   obtain ⟨rfl, rfl, rfl⟩ := H
   go_enter Try.func99, Try.ntmps99
   go_wp2_with (first | (refine gC (some 9) Try.func67 #[.pointer (some ⟨g, 0, none⟩), .int .i64 (l1.length : Int)] ?_; (with_reducible refine (spec_l01Below.calls g s0_0 s0_1 s0_2 (l1.length : Int) t205 t206 t207 w0 _ ?side1 ?side2 A3.out).mono ?_); (case side1 => exact iZ88 HI0); (case side2 => exact jZ88 HB HI0); rintro e w6 ⟨rfl, hi, hb, hk⟩; refine ⟨_, rfl, ?_⟩; replace HK := Aside0.mk (KeepBut.trans (kZ HK) hk (.inl rfl)); replace HB := Aside0.mk (hb); replace HI0 := Aside0.mk (hi); (try clear hb); have p208 : 0 ≤ (t205 : Int) := of_decide_eq_true (by first | (with_reducible assumption) | assumption); have q208 : t205 < (l1.length : Int) := of_decide_eq_true (by first | (with_reducible assumption) | assumption); obtain ⟨ad208, e208, hx208_0⟩ := Kd.at_int HR1.out t205 p208 q208; cases e208; replace hx208_0 := keep_cell HK.out hx208_0 (by first | (rw [add_block]; exact hf1 _ rfl (by omega)) | exact hf1 _ rfl (by omega) | exact hf1 ad208 rfl (by omega)); replace p208 := eq_true p208; replace q208 := eq_true q208))
   go_ret
   exact ⟨by first | rfl | (simp [errW_none, errW_some] <;> rfl) | (simp [*, errW_none, errW_some] <;> rfl), iZ88 HI0, jZ88 HB HI0, kZ HK⟩
  ·rw [if_neg c5] at H
   exact absurd H (by simp)
 ·rw [if_neg c4] at H
  exact absurd H (by simp)
def spec_l06Num.f (s0_0 : List Int) (s0_1 : Int) (s0_2 : Int) : Option (Int × Int × Int) := (spec_l01Below.f s0_0 s0_1 s0_2 256).bind fun bt209 => ((spec_l01PickInt.f s0_0 bt209.2.1 bt209.2.2 (([0, 1, 2, 1008, 1009, 1010, (-1), wrap64 (bt209.1 * 3), 500, (-9223372036854775808), 9223372036854775807] : List Int))).bind fun bt215 => (some (bt215.1, bt215.2.1, bt215.2.2)))
set_option maxHeartbeats 8000000 in
set_option maxRecDepth 100000 in
theorem spec_l06Num.calls (g : Nat) (s0_0 : List Int) (s0_1 : Int) (s0_2 : Int) (r1 : Int) (r2 : Int) (r3 : Int) (w0 w : World) (hI : IsS88 w0 w g s0_0 s0_1 s0_2) (hB : Below w0.heap.size w0 w) (h : spec_l06Num.f s0_0 s0_1 s0_2 = some (r1, r2, r3)) :
  Calls Try.prog 90 #[.pointer (some ⟨g, 0, none⟩)] w fun e w' => e = .returned (.int .i64 r1) ∧ IsS88 w0 w' g s0_0 r2 r3 ∧ Below w0.heap.size w0 w' ∧ KeepBut w w' g none := by
 have HI0 := Aside0.mk hI
 have HK := Aside0.mk (KeepBut.refl w g none)
 have HL := Aside0.mk hB.size
 clear hI
 have HW0 := Aside0.mk hB.size
 have HB := Aside0.mk hB
 clear hB
 have H : ((spec_l01Below.f s0_0 s0_1 s0_2 256).bind fun bt209 => ((spec_l01PickInt.f s0_0 bt209.2.1 bt209.2.2 (([0, 1, 2, 1008, 1009, 1010, (-1), wrap64 (bt209.1 * 3), 500, (-9223372036854775808), 9223372036854775807] : List Int))).bind fun bt215 => (some (bt215.1, bt215.2.1, bt215.2.2)))) = some (r1, r2, r3) := h
 clear h
 replace H := Option.bind_eq_some_iff.mp H
 obtain ⟨⟨t209, t210, t211⟩, A20, H⟩ := H
 have A2 := Aside0.mk A20
 clear A20
 obtain ⟨y212, hy212⟩ : ∃ y_ : List Int, y_ = (([0, 1, 2, 1008, 1009, 1010, (-1), wrap64 (t209 * 3), 500, (-9223372036854775808), 9223372036854775807] : List Int)) := ⟨_, rfl⟩
 replace H : ((spec_l01PickInt.f s0_0 t210 t211 y212).bind fun bt215 => (some (bt215.1, bt215.2.1, bt215.2.2))) = some (r1, r2, r3) := by first | (rw [hy212]; with_reducible exact H) | (have H2_ := (Option.bind_some _ _).symm.trans H; rw [hy212]; with_reducible exact H2_) | (have H2_ := (Option.bind_some _ _).symm.trans H; with_reducible exact H2_) | with_reducible exact H | (rw [hy212]; exact H) | exact H
 have Ny212 := Aside0.mk hy212
 clear hy212
 replace H := Option.bind_eq_some_iff.mp H
 obtain ⟨⟨t215, t216, t217⟩, A30, H⟩ := H
 have A3 := Aside0.mk A30
 clear A30
 simp only [Option.some.injEq, Prod.mk.injEq] at H
 obtain ⟨rfl, rfl, rfl⟩ := H
 go_enter Try.func90, Try.ntmps90
 go_wp2_with (first | (refine gC (some 5) Try.func67 #[.pointer (some ⟨g, 0, none⟩), .int .i64 256] ?_; (with_reducible refine (spec_l01Below.calls g s0_0 s0_1 s0_2 256 t209 t210 t211 w0 _ ?side1 ?side2 A2.out).mono ?_); (case side1 => exact iZ88 HI0); (case side2 => exact jZ88 HB HI0); rintro e w4 ⟨rfl, hi, hb, hk⟩; refine ⟨_, rfl, ?_⟩; replace HK := Aside0.mk (KeepBut.trans (kZ HK) hk (.inl rfl)); replace HB := Aside0.mk (hb); replace HI0 := Aside0.mk (hi); (try clear hb)) | ((with_reducible refine gate_dst (N := 7) rfl ?_); refine Kd.R_lit (Kd.int .i64) _ 3 ?hg (N := 7) ?hd (xs := ([0, 1, 2, 1008, 1009, 1010, (-1), wrap64 (t209 * 3), 500, (-9223372036854775808), 9223372036854775807] : List Int)) (inner := [.int .i64 0, .int .i64 1, .int .i64 2, .int .i64 1008, .int .i64 1009, .int .i64 1010, .int .i64 (-1), .int .i64 (wrap64 (t209 * 3)), .int .i64 500, .int .i64 (-9223372036854775808), .int .i64 9223372036854775807]) (ok := fun _ => True) (okp := fun _ => True) ?hr ?hp (fun _ hk => hk) trivial (Below.refl _ _) (Nat.le_refl _) (by simp) ?_; (case hd => rfl); (case hg => rfl); (case hr => first | (go_simp; done) | (go_simp; rfl)); (case hp => exact (Reps.one (show Kd.M (Kd.int .i64) _ _ _ 0 [.int .i64 0] from rfl) (Reps.one (show Kd.M (Kd.int .i64) _ _ _ 1 [.int .i64 1] from rfl) (Reps.one (show Kd.M (Kd.int .i64) _ _ _ 2 [.int .i64 2] from rfl) (Reps.one (show Kd.M (Kd.int .i64) _ _ _ 1008 [.int .i64 1008] from rfl) (Reps.one (show Kd.M (Kd.int .i64) _ _ _ 1009 [.int .i64 1009] from rfl) (Reps.one (show Kd.M (Kd.int .i64) _ _ _ 1010 [.int .i64 1010] from rfl) (Reps.one (show Kd.M (Kd.int .i64) _ _ _ (-1) [.int .i64 (-1)] from rfl) (Reps.one (show Kd.M (Kd.int .i64) _ _ _ (wrap64 (t209 * 3)) [.int .i64 (wrap64 (t209 * 3))] from rfl) (Reps.one (show Kd.M (Kd.int .i64) _ _ _ 500 [.int .i64 500] from rfl) (Reps.one (show Kd.M (Kd.int .i64) _ _ _ (-9223372036854775808) [.int .i64 (-9223372036854775808)] from rfl) (Reps.one (show Kd.M (Kd.int .i64) _ _ _ 9223372036854775807 [.int .i64 9223372036854775807] from rfl) (Reps.none _ _))))))))))))); intro v213 w5 ho6 hb hg_ hnew_; clear hg_ hnew_; (first | rw [← Ny212.out] at ho6 | (simp only [Int.reduceToNat] at ho6; rw [← Ny212.out] at ho6)); have HO214 := Aside0.mk (Kd.R_lower ho6 (keep_size (w := w) (g := g) (row := none) (kZ HK))); replace HK := Aside0.mk (KeepBut.trans (kZ HK) (KeepBut.of_below hb g none) (.inl rfl)); replace HB := Aside0.mk (below_step (jZ88 HB HI0) hb); replace HI0 := Aside0.mk (IsS88.below (iZ88 HI0) hb); clear hb ho6; obtain ⟨Ao7, co7, eo7⟩ := Kd.R_slice HO214.out; subst eo7) | (refine gC (some 8) Try.func99 #[.pointer (some ⟨g, 0, none⟩), .slice Ao7 y212.length co7] ?_; (with_reducible refine (spec_l01PickInt.calls g s0_0 t210 t211 _ _ y212 t215 t216 t217 w0 _ ?side1 ?side2 ?side3 ?side4 ?side5 A3.out).mono ?_); (case side1 => exact iZ88 HI0); (case side2 => exact jZ88 HB HI0); (case side3 => exact cP ((Kd.R_reads' HO214.out).2.2)); (case side4 => exact (Kd.R_reads' HO214.out).2.1); (case side5 => exact far_slice (IsS88.own_ne HI0.out HO214.out (by decide))); rintro e w8 ⟨rfl, hi, hb, hk⟩; refine ⟨_, rfl, ?_⟩; replace HO214 := Aside0.mk (Kd.R_mono (Kd.R_keep (IsS88.apart (show IsS88 w0 _ g s0_0 t210 t211 from iZ88 HI0) (rP HO214) (by decide)) hk (fun _ h => h.2)) (fun _ h => h.1)); replace HK := Aside0.mk (KeepBut.trans (kZ HK) hk (.inl rfl)); replace HB := Aside0.mk (hb); replace HI0 := Aside0.mk (hi); (try clear hb)))
 go_ret
 exact ⟨by first | rfl | (simp [errW_none, errW_some] <;> rfl) | (simp [*, errW_none, errW_some] <;> rfl), iZ88 HI0, jZ88 HB HI0, kZ HK⟩
end Go.Proofs.Ytcnejiflpioaiaa.Pf
end
