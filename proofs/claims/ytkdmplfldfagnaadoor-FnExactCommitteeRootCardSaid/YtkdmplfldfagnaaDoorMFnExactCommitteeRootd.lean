/- What is proved here: part 4 of 4 of the proof of the given statement FnExactCommitteeRoot: the contracts of the Go functions that it reaches, the plain facts on lists and numbers, and (in the last part) the statement itself. No conditions beyond the given ones. -/
import Derived.Test.YtkdmplfldfagnaaDoorMFnExactCommitteeRootwSlim
import Derived.Test.YtkdmplfldfagnaaDoorMFnExactCommitteeRoota
import Derived.Test.YtkdmplfldfagnaaDoorMFnExactCommitteeRootb
import Derived.Test.YtkdmplfldfagnaaDoorMFnExactCommitteeRootc
import Derived.Test.YtkdmplfldfagnaaDoorMFnExactCommitteeRootwMore
import Derived.Deep.Slices
import Derived.ChangeArms
import Derived.DataReads
import Derived.ChangeShapes
import Derived.Test.YtkdmplfldfagnaaDoorRows
import Derived.ProofKit
import Derived.LaidMore
import Derived.OpenShut
import Derived.Stop.Joined
import Derived.Test.YtkdmplfldfagnaaDoorTie
import Derived.Test.YtkdmplfldfagnaaDoorCards
import Derived.WalkKit
import Derived.ShutString
import Derived.ChangeOld
import Derived.Below
import Derived.SizedLaws
import Derived.OpenVars
import Derived.SevenTiedAt

section
namespace Go.Proofs.YtkdmplfldfagnaaDoor.Pf
open Go.RowKit Go.Proofs.YtkdmplfldfagnaaDoorW.PrintWords Go.Proofs.YtkdmplfldfagnaaDoorW.PrintLast Go.Proofs.YtkdmplfldfagnaaDoorW.PrintMore
attribute [local go_sem] max2_int min2_int max_two min_two max_three min_three max_four min_four   -- for this text's walks alone
set_option linter.unusedVariables false
set_option linter.unusedSimpArgs false
/-! ### impl_PointAdd: function 59 -/
def impl_PointAdd.f (k : Nat) (a0_0 : Int) (a0_1 : Int) (a0_2 : Bool) (a1_0 : Int) (a1_1 : Int) (a1_2 : Bool) : Option (Int × Int × Bool) := (impl_PointOk.f a0_0 a0_1 a0_2).bind fun t347 => (if t347 = true then ((impl_PointOk.f a1_0 a1_1 a1_2).bind fun t348 => (if t348 = true then ((impl_add.f k a0_0 a0_1 a0_2 a1_0 a1_1 a1_2).bind fun bt349 => (some (bt349.1, bt349.2.1, bt349.2.2))) else (some (0, 0, true)))) else (some (0, 0, true)))
theorem impl_PointAdd.mono : ∀ a0 a1 a2 a3 a4 a5 k, LeO (impl_PointAdd.f k a0 a1 a2 a3 a4 a5) (impl_PointAdd.f (k + 1) a0 a1 a2 a3 a4 a5) := by
 intro a0 a1 a2 a3 a4 a5 k
 unfold impl_PointAdd.f
 repeat' first
   | (with_reducible exact impl_add.mono _ _ _ _ _ _ _)
   | (with_reducible exact LeO.refl _)
   | (with_reducible exact LeO.none _)
   | (with_reducible refine LeO.ite ?_ ?_)
   | (with_reducible refine LeO.bind ?_ (fun _ => ?_))
   | exact impl_add.mono _ _ _ _ _ _ _
   | exact LeO.none _
   | refine LeO.ite ?_ ?_
   | refine LeO.bind ?_ (fun _ => ?_)
set_option maxHeartbeats 8000000 in
set_option maxRecDepth 100000 in
theorem impl_PointAdd.calls (k : Nat) (a0_0 : Int) (a0_1 : Int) (a0_2 : Bool) (a1_0 : Int) (a1_1 : Int) (a1_2 : Bool) (r1 : Int) (r2 : Int) (r3 : Bool) (w : World) (h : impl_PointAdd.f k a0_0 a0_1 a0_2 a1_0 a1_1 a1_2 = some (r1, r2, r3)) :
  Calls Tryd.prog 59 #[.agg #[.int .i64 a0_0, .int .i64 a0_1, .bool a0_2], .agg #[.int .i64 a1_0, .int .i64 a1_1, .bool a1_2]] w fun e w' => e = .returned (.agg #[.int .i64 r1, .int .i64 r2, .bool r3]) ∧ Below w.heap.size w w' := by
 have hu23 := Tryd.underlying23
 have HB := Aside0.mk (Below.refl w.heap.size w)
 have H : ((impl_PointOk.f a0_0 a0_1 a0_2).bind fun t347 => (if t347 = true then ((impl_PointOk.f a1_0 a1_1 a1_2).bind fun t348 => (if t348 = true then ((impl_add.f k a0_0 a0_1 a0_2 a1_0 a1_1 a1_2).bind fun bt349 => (some (bt349.1, bt349.2.1, bt349.2.2))) else (some (0, 0, true)))) else (some (0, 0, true)))) = some (r1, r2, r3) := h
 clear h
 replace H := Option.bind_eq_some_iff.mp H
 obtain ⟨t347, A30, H⟩ := H
 have A3 := Aside0.mk A30
 clear A30
 by_cases c4 : t347 = true
 ·subst c4
  rw [if_pos rfl] at H
  replace H := Option.bind_eq_some_iff.mp H
  obtain ⟨t348, A50, H⟩ := H
  have A5 := Aside0.mk A50
  clear A50
  by_cases c6 : t348 = true
  ·subst c6
   rw [if_pos rfl] at H
   replace H := Option.bind_eq_some_iff.mp H
   obtain ⟨⟨t349, t350, t351⟩, A70, H⟩ := H
   have A7 := Aside0.mk A70
   clear A70
   simp only [Option.some.injEq, Prod.mk.injEq] at H
   obtain ⟨rfl, rfl, rfl⟩ := H
   go_enter Tryd.func59, Tryd.ntmps59
   go_wp2_with (first | ((with_reducible refine gate_dst (N := 2) rfl ?_); refine bE 2 #[.int .i64 a0_0, .int .i64 a0_1, .bool a0_2] 23 ?_; intro gb344 hg w8 hbox hb; have BK344 := Aside0.mk (hbox); have GW344 := bG HB hg; have GE344 := bG HB hg; replace HB := bS HB hb; clear hb hbox hg) | ((with_reducible refine gate_dst (N := 3) rfl ?_); refine bE 3 #[.int .i64 a1_0, .int .i64 a1_1, .bool a1_2] 23 ?_; intro gb345 hg w9 hbox hb; have BK345 := Aside0.mk (hbox); have GW345 := bG HB hg; have GE345 := bG HB hg; replace HB := bS HB hb; have NB344_345 := bL BK344 hg; have NB345_344 := bR BK344 hg; replace BK344 := bB BK344 hb; clear hb hbox hg) | ((with_reducible refine gate_dst (N := 4) rfl ?_); refine bE 4 #[.int .i64 0, .int .i64 0, .bool false] 23 ?_; intro gb346 hg w10 hbox hb; have BK346 := Aside0.mk (hbox); have GW346 := bG HB hg; have GE346 := bG HB hg; replace HB := bS HB hb; have NB344_346 := bL BK344 hg; have NB346_344 := bR BK344 hg; replace BK344 := bB BK344 hb; have NB345_346 := bL BK345 hg; have NB346_345 := bR BK345 hg; replace BK345 := bB BK345 hb; clear hb hbox hg; have hnb11 := NB344_345.out; have hnc11 := NB345_344.out; have hnb12 := NB344_346.out; have hnc12 := NB346_344.out; obtain ⟨hcz13_0, hcz13_1, hcz13_2, hfz13_0, hfz13_1, hfz13_2⟩ := bK3 (w := w10) BK344) | ((with_reducible refine gate_callee (f := 97) rfl ?_); refine gL (some 6) Tryd.func97 #[.agg #[.int .i64 a0_0, .int .i64 a0_1, .bool a0_2]] ?_; (with_reducible refine (impl_PointOk.calls a0_0 a0_1 a0_2 true _ A3.out).mono ?_); rintro e w14 ⟨rfl, hb⟩; refine ⟨_, rfl, ?_⟩; replace BK344 := bB BK344 hb; replace BK345 := bB BK345 hb; replace BK346 := bB BK346 hb; replace HB := bS HB hb; (try clear hb); have hnb15 := NB345_346.out; have hnc15 := NB346_345.out; obtain ⟨hcz16_0, hcz16_1, hcz16_2, hfz16_0, hfz16_1, hfz16_2⟩ := bK3 (w := w14) BK345) | (go_at_call 97; (with_reducible refine (impl_PointOk.calls a1_0 a1_1 a1_2 true _ A5.out).mono ?_); rintro e w17 ⟨rfl, hb⟩; replace BK344 := bB BK344 hb; replace BK345 := bB BK345 hb; replace BK346 := bB BK346 hb; replace HB := bS HB hb; (try clear hb); obtain ⟨hcz18_0, hcz18_1, hcz18_2, hfz18_0, hfz18_1, hfz18_2⟩ := bK3 (w := w17) BK344; obtain ⟨hcz19_0, hcz19_1, hcz19_2, hfz19_0, hfz19_1, hfz19_2⟩ := bK3 (w := w17) BK345) | ((with_reducible refine gate_callee (f := 98) rfl ?_); refine gL (some 16) Tryd.func98 #[.agg #[.int .i64 a0_0, .int .i64 a0_1, .bool a0_2], .agg #[.int .i64 a1_0, .int .i64 a1_1, .bool a1_2]] ?_; (with_reducible refine (impl_add.calls k a0_0 a0_1 a0_2 a1_0 a1_1 a1_2 t349 t350 t351 _ A7.out).mono ?_); rintro e w20 ⟨rfl, hb⟩; refine ⟨_, rfl, ?_⟩; replace BK344 := bB BK344 hb; replace BK345 := bB BK345 hb; replace BK346 := bB BK346 hb; replace HB := bS HB hb; (try clear hb); obtain ⟨hcz21_0, hcz21_1, hcz21_2, hfz21_0, hfz21_1, hfz21_2⟩ := bK3 (w := w20) BK346))
   refine rC gb346 23 #[.int .i64 t349, .int .i64 t350, .bool t351] (bU BK346) Tryd.underlying23 ?_
   exact ⟨rR, bZ HB⟩
  ·replace c6 := Bool.eq_false_iff.mpr c6
   subst c6
   rw [if_neg (show ¬ (false = true) by decide)] at H
   simp only [Option.some.injEq, Prod.mk.injEq] at H
   obtain ⟨rfl, rfl, rfl⟩ := H
   go_enter Tryd.func59, Tryd.ntmps59
   go_wp2_with (first | ((with_reducible refine gate_dst (N := 2) rfl ?_); refine bE 2 #[.int .i64 a0_0, .int .i64 a0_1, .bool a0_2] 23 ?_; intro gb344 hg w22 hbox hb; have BK344 := Aside0.mk (hbox); have GW344 := bG HB hg; have GE344 := bG HB hg; replace HB := bS HB hb; clear hb hbox hg) | ((with_reducible refine gate_dst (N := 3) rfl ?_); refine bE 3 #[.int .i64 a1_0, .int .i64 a1_1, .bool a1_2] 23 ?_; intro gb345 hg w23 hbox hb; have BK345 := Aside0.mk (hbox); have GW345 := bG HB hg; have GE345 := bG HB hg; replace HB := bS HB hb; have NB344_345 := bL BK344 hg; have NB345_344 := bR BK344 hg; replace BK344 := bB BK344 hb; clear hb hbox hg) | ((with_reducible refine gate_dst (N := 4) rfl ?_); refine bE 4 #[.int .i64 0, .int .i64 0, .bool false] 23 ?_; intro gb346 hg w24 hbox hb; have BK346 := Aside0.mk (hbox); have GW346 := bG HB hg; have GE346 := bG HB hg; replace HB := bS HB hb; have NB344_346 := bL BK344 hg; have NB346_344 := bR BK344 hg; replace BK344 := bB BK344 hb; have NB345_346 := bL BK345 hg; have NB346_345 := bR BK345 hg; replace BK345 := bB BK345 hb; clear hb hbox hg; have hnb25 := NB344_345.out; have hnc25 := NB345_344.out; have hnb26 := NB344_346.out; have hnc26 := NB346_344.out; obtain ⟨hcz27_0, hcz27_1, hcz27_2, hfz27_0, hfz27_1, hfz27_2⟩ := bK3 (w := w24) BK344) | ((with_reducible refine gate_callee (f := 97) rfl ?_); refine gL (some 6) Tryd.func97 #[.agg #[.int .i64 a0_0, .int .i64 a0_1, .bool a0_2]] ?_; (with_reducible refine (impl_PointOk.calls a0_0 a0_1 a0_2 true _ A3.out).mono ?_); rintro e w28 ⟨rfl, hb⟩; refine ⟨_, rfl, ?_⟩; replace BK344 := bB BK344 hb; replace BK345 := bB BK345 hb; replace BK346 := bB BK346 hb; replace HB := bS HB hb; (try clear hb); have hnb29 := NB345_346.out; have hnc29 := NB346_345.out; obtain ⟨hcz30_0, hcz30_1, hcz30_2, hfz30_0, hfz30_1, hfz30_2⟩ := bK3 (w := w28) BK345) | (go_at_call 97; (with_reducible refine (impl_PointOk.calls a1_0 a1_1 a1_2 false _ A5.out).mono ?_); rintro e w31 ⟨rfl, hb⟩; replace BK344 := bB BK344 hb; replace BK345 := bB BK345 hb; replace BK346 := bB BK346 hb; replace HB := bS HB hb; (try clear hb); obtain ⟨hcz32_0, hcz32_1, hcz32_2, hfz32_0, hfz32_1, hfz32_2⟩ := bK3 (w := w31) BK346))
   refine rC gb346 23 #[.int .i64 0, .int .i64 0, .bool true] (bU BK346) Tryd.underlying23 ?_
   exact ⟨rR, bZ HB⟩
 ·replace c4 := Bool.eq_false_iff.mpr c4
  subst c4
  rw [if_neg (show ¬ (false = true) by decide)] at H
  simp only [Option.some.injEq, Prod.mk.injEq] at H
  obtain ⟨rfl, rfl, rfl⟩ := H
  go_enter Tryd.func59, Tryd.ntmps59
  go_wp2_with (first | ((with_reducible refine gate_dst (N := 2) rfl ?_); refine bE 2 #[.int .i64 a0_0, .int .i64 a0_1, .bool a0_2] 23 ?_; intro gb344 hg w33 hbox hb; have BK344 := Aside0.mk (hbox); have GW344 := bG HB hg; have GE344 := bG HB hg; replace HB := bS HB hb; clear hb hbox hg) | ((with_reducible refine gate_dst (N := 3) rfl ?_); refine bE 3 #[.int .i64 a1_0, .int .i64 a1_1, .bool a1_2] 23 ?_; intro gb345 hg w34 hbox hb; have BK345 := Aside0.mk (hbox); have GW345 := bG HB hg; have GE345 := bG HB hg; replace HB := bS HB hb; have NB344_345 := bL BK344 hg; have NB345_344 := bR BK344 hg; replace BK344 := bB BK344 hb; clear hb hbox hg) | ((with_reducible refine gate_dst (N := 4) rfl ?_); refine bE 4 #[.int .i64 0, .int .i64 0, .bool false] 23 ?_; intro gb346 hg w35 hbox hb; have BK346 := Aside0.mk (hbox); have GW346 := bG HB hg; have GE346 := bG HB hg; replace HB := bS HB hb; have NB344_346 := bL BK344 hg; have NB346_344 := bR BK344 hg; replace BK344 := bB BK344 hb; have NB345_346 := bL BK345 hg; have NB346_345 := bR BK345 hg; replace BK345 := bB BK345 hb; clear hb hbox hg; have hnb36 := NB344_345.out; have hnc36 := NB345_344.out; have hnb37 := NB344_346.out; have hnc37 := NB346_344.out; obtain ⟨hcz38_0, hcz38_1, hcz38_2, hfz38_0, hfz38_1, hfz38_2⟩ := bK3 (w := w35) BK344) | ((with_reducible refine gate_callee (f := 97) rfl ?_); refine gL (some 6) Tryd.func97 #[.agg #[.int .i64 a0_0, .int .i64 a0_1, .bool a0_2]] ?_; (with_reducible refine (impl_PointOk.calls a0_0 a0_1 a0_2 false _ A3.out).mono ?_); rintro e w39 ⟨rfl, hb⟩; refine ⟨_, rfl, ?_⟩; replace BK344 := bB BK344 hb; replace BK345 := bB BK345 hb; replace BK346 := bB BK346 hb; replace HB := bS HB hb; (try clear hb); have hnb40 := NB346_345.out; have hnc40 := NB345_346.out; obtain ⟨hcz41_0, hcz41_1, hcz41_2, hfz41_0, hfz41_1, hfz41_2⟩ := bK3 (w := w39) BK346))
  refine rC gb346 23 #[.int .i64 0, .int .i64 0, .bool true] (bU BK346) Tryd.underlying23 ?_
  exact ⟨rR, bZ HB⟩
/-! ### impl_SumPoints: function 74 -/
def impl_SumPoints.l0 : Nat → List (S23) → Int → Int → Int → Int → Bool → Option (Int × Int × Bool)
 | 0, _, _, _, _, _, _ => none
 | k + 1, x7, x8, x9, x786000, x786001, x786002 => if x9 < x8 then (if 0 ≤ x9 then (if x9 < (x7.length : Int) then ((impl_PointAdd.f k x786000 x786001 x786002 ((rd_T23 x7 x9).f0) ((rd_T23 x7 x9).f1) ((rd_T23 x7 x9).f2)).bind fun bt788 => (impl_SumPoints.l0 k x7 x8 (wrap64 (x9 + 1)) bt788.1 bt788.2.1 bt788.2.2)) else (none)) else (none)) else (some (x786000, x786001, x786002))
def impl_SumPoints.f (k : Nat) (l0 : List (S23)) : Option (Int × Int × Bool) := impl_SumPoints.l0 k l0 (l0.length : Int) 0 0 0 true
theorem impl_SumPoints.mono_l : ∀ k, (∀ y0 y1 y2 y3 y4 y5, LeO (impl_SumPoints.l0 k y0 y1 y2 y3 y4 y5) (impl_SumPoints.l0 (k + 1) y0 y1 y2 y3 y4 y5))
 | 0 => fun _ _ _ _ _ _ r h => by simp [impl_SumPoints.l0] at h
 | k + 1 => by
  have ih0 := impl_SumPoints.mono_l k
  ·intro y0 y1 y2 y3 y4 y5
   unfold impl_SumPoints.l0
   repeat' first
   | (with_reducible exact ih0 _ _ _ _ _ _)
   | (with_reducible exact impl_PointAdd.mono _ _ _ _ _ _ _)
   | (with_reducible exact LeO.refl _)
   | (with_reducible exact LeO.none _)
   | (with_reducible refine LeO.ite ?_ ?_)
   | (with_reducible refine LeO.bind ?_ (fun _ => ?_))
   | exact ih0 _ _ _ _ _ _
   | exact impl_PointAdd.mono _ _ _ _ _ _ _
   | exact LeO.none _
   | refine LeO.ite ?_ ?_
   | refine LeO.bind ?_ (fun _ => ?_)
theorem impl_SumPoints.mono : ∀ a0 k, LeO (impl_SumPoints.f k a0) (impl_SumPoints.f (k + 1) a0) := by
 intro a0 k
 have ih0 := impl_SumPoints.mono_l k
 unfold impl_SumPoints.f
 repeat' first
   | (with_reducible exact ih0 _ _ _ _ _ _)
   | (with_reducible exact impl_PointAdd.mono _ _ _ _ _ _ _)
   | (with_reducible exact LeO.refl _)
   | (with_reducible exact LeO.none _)
   | (with_reducible refine LeO.ite ?_ ?_)
   | (with_reducible refine LeO.bind ?_ (fun _ => ?_))
   | exact ih0 _ _ _ _ _ _
   | exact impl_PointAdd.mono _ _ _ _ _ _ _
   | exact LeO.none _
   | refine LeO.ite ?_ ?_
   | refine LeO.bind ?_ (fun _ => ?_)
set_option maxHeartbeats 8000000 in
set_option maxRecDepth 100000 in
theorem impl_SumPoints.calls (k : Nat) (A0 : Option Addr) (c0 : Nat) (l0 : List (S23)) (r1 : Int) (r2 : Int) (r3 : Bool) (w : World) (hr0 : Kd.C k23 w A0 l0.length l0) (hc0 : l0.length ≤ c0) (h : impl_SumPoints.f k l0 = some (r1, r2, r3)) :
  Calls Tryd.prog 74 #[.slice A0 l0.length c0] w fun e w' => e = .returned (.agg #[.int .i64 r1, .int .i64 r2, .bool r3]) ∧ Below w.heap.size w w' := by
 have hu23 := Tryd.underlying23
 have HR0 := Aside0.mk hr0
 have HC0 := Aside0.mk hc0
 clear hr0 hc0
 have HB := Aside0.mk (Below.refl w.heap.size w)
 have H : (impl_SumPoints.l0 k l0 (l0.length : Int) 0 0 0 true) = some (r1, r2, r3) := h
 clear h
 have H' := Aside0.mk H
 clear H
 go_enter Tryd.func74, Tryd.ntmps74
 go_wp2_with (first | ((with_reducible refine gate_dst (N := 2) rfl ?_); refine bE 2 #[.int .i64 0, .int .i64 0, .bool false] 23 ?_; intro gb784 hg w2 hbox hb; have BK784 := Aside0.mk (hbox); have GW784 := bG HB hg; have GE784 := bG HB hg; replace HB := bS HB hb; clear hb hbox hg) | ((with_reducible refine gate_dst (N := 3) rfl ?_); refine bE 3 #[.int .i64 0, .int .i64 0, .bool false] 23 ?_; intro gb785 hg w3 hbox hb; have BK785 := Aside0.mk (hbox); have GW785 := bG HB hg; have GE785 := bG HB hg; replace HB := bS HB hb; have NB784_785 := bL BK784 hg; have NB785_784 := bR BK784 hg; replace BK784 := bB BK784 hb; clear hb hbox hg; have hnb4 := NB785_784.out; have hnc4 := NB784_785.out; obtain ⟨hcz5_0, hcz5_1, hcz5_2, hfz5_0, hfz5_1, hfz5_2⟩ := bK3 (w := w3) BK785))
 go_loopg [9] k (fun kq v9 w' => ∃ (x9_1 : Int) (x786000_1 : Int) (x786001_1 : Int) (x786002_1 : Bool), v9 = .int .i64 x9_1 ∧ Aside0 (impl_SumPoints.l0 kq l0 (l0.length : Int) x9_1 x786000_1 x786001_1 x786002_1 = some (r1, r2, r3)) ∧ Aside0 (kq ≤ k) ∧ Aside0 (w'.heap[gb784]? = some (.cells #[.int .i64 0, .int .i64 0, .bool false] 23 (0, 0))) ∧ Aside0 (w'.heap[gb785]? = some (.cells #[.int .i64 x786000_1, .int .i64 x786001_1, .bool x786002_1] 23 (0, 0))) ∧ Aside0 (Below w.heap.size w w'))
 case atStart => exact ⟨(0), (0), (0), (true), rS, H', ⟨Nat.le_refl _⟩, ⟨bP BK784⟩, ⟨bU BK785⟩, ⟨bZ HB⟩⟩
 case round =>
  clear H'
  try clear p2
  try clear c4
  try clear hcz5_0
  try clear hcz5_1
  try clear hcz5_2
  try clear hfz5_0
  try clear hfz5_1
  try clear hfz5_2
  obtain ⟨x9_1, x786000_1, x786001_1, x786002_1, rfl, HA, HK1, BK784, BK785, HB⟩ := hrel
  cases gk with
  | zero => exact absurd HA.out (by simp [impl_SumPoints.l0])
  | succ k1 =>
   have H := HA.out
   clear HA
   simp only [impl_SumPoints.l0] at H
   by_cases c6 : x9_1 < (l0.length : Int)
   ·rw [if_pos c6] at H
    have c6b0 : decide (x9_1 < (l0.length : Int)) = true := decide_eq_true c6
    clear c6
    by_cases c7 : 0 ≤ x9_1
    ·rw [if_pos c7] at H
     have c7b0 : decide (0 ≤ x9_1) = true := decide_eq_true c7
     clear c7
     by_cases c8 : x9_1 < (l0.length : Int)
     ·rw [if_pos c8] at H
      have c8b0 : decide (x9_1 < (l0.length : Int)) = true := decide_eq_true c8
      clear c8
      replace H := Option.bind_eq_some_iff.mp H
      obtain ⟨⟨t788, t789, t790⟩, A90, H⟩ := H
      have A9 := Aside0.mk A90
      clear A90
      have H' := Aside0.mk H
      clear H
      have p786 : 0 ≤ (x9_1 : Int) := of_decide_eq_true (by first | (with_reducible assumption) | assumption)
      have q786 : x9_1 < (l0.length : Int) := of_decide_eq_true (by first | (with_reducible assumption) | assumption)
      obtain ⟨ad786, e786, hx786_0, hx786_1, hx786_2⟩ := at_T23 HR0.out x9_1 p786 q786
      cases e786
      replace hx786_0 := (HB.out.cell (World.block_lt_of_cell? w _ hx786_0)).trans hx786_0
      replace hx786_1 := (HB.out.cell (World.block_lt_of_cell? w _ hx786_1)).trans hx786_1
      replace hx786_2 := (HB.out.cell (World.block_lt_of_cell? w _ hx786_2)).trans hx786_2
      replace p786 := eq_true p786
      replace q786 := eq_true q786
      go_wp2_with (first | ((with_reducible refine gate_dst (N := 5) rfl ?_); refine bE 5 #[.int .i64 0, .int .i64 0, .bool false] 23 ?_; intro gb787 hg w10 hbox hb; have BK787 := Aside0.mk (hbox); have GW787 := bG HB hg; have GE787 := bG HB hg; replace HB := bS HB hb; have NB784_787 := bL BK784 hg; have NB787_784 := bR BK784 hg; replace BK784 := bB BK784 hb; have NB785_787 := bL BK785 hg; have NB787_785 := bR BK785 hg; replace BK785 := bB BK785 hb; clear hb hbox hg; have hnb11 := NB787_784.out; have hnc11 := NB784_787.out; have hnb12 := NB787_785.out; have hnc12 := NB785_787.out; obtain ⟨hcz13_0, hcz13_1, hcz13_2, hfz13_0, hfz13_1, hfz13_2⟩ := bK3 (w := w10) BK787; have hnb14 := NB785_784.out; have hnc14 := NB784_785.out; obtain ⟨hcz15_0, hcz15_1, hcz15_2, hfz15_0, hfz15_1, hfz15_2⟩ := bK3 (w := w10) BK785) | ((with_reducible refine gate_callee (f := 59) rfl ?_); refine gL (some 15) Tryd.func59 #[.agg #[.int .i64 x786000_1, .int .i64 x786001_1, .bool x786002_1], .agg #[.int .i64 ((rd_T23 l0 x9_1).f0), .int .i64 ((rd_T23 l0 x9_1).f1), .bool ((rd_T23 l0 x9_1).f2)]] ?_; (with_reducible refine (impl_PointAdd.calls k1 x786000_1 x786001_1 x786002_1 ((rd_T23 l0 x9_1).f0) ((rd_T23 l0 x9_1).f1) ((rd_T23 l0 x9_1).f2) t788 t789 t790 _ A9.out).mono ?_); rintro e w16 ⟨rfl, hb⟩; refine ⟨_, rfl, ?_⟩; replace BK784 := bB BK784 hb; replace BK785 := bB BK785 hb; replace BK787 := bV 23 #[.int .i64 ((rd_T23 l0 x9_1).f0), .int .i64 ((rd_T23 l0 x9_1).f1), .bool ((rd_T23 l0 x9_1).f2)] BK787 hb; replace HB := bS HB hb; (try clear hb); obtain ⟨hcz17_0, hcz17_1, hcz17_2, hfz17_0, hfz17_1, hfz17_2⟩ := bK3 (w := w16) BK785))
      go_roundg k1
      case measure => have := HK1.out; omega
      case rel => exact ⟨(wrap64 (x9_1 + 1)), (t788), (t789), (t790), rS, H', ⟨by have := HK1.out; omega⟩, ⟨bP BK784⟩, ⟨bU BK785⟩, ⟨bZ HB⟩⟩
     ·rw [if_neg c8] at H
      exact absurd H (by simp)
    ·rw [if_neg c7] at H
     exact absurd H (by simp)
   ·rw [if_neg c6] at H
    have c6b0 : decide (x9_1 < (l0.length : Int)) = false := decide_eq_false c6
    clear c6
    simp only [Option.some.injEq, Prod.mk.injEq] at H
    obtain ⟨rfl, rfl, rfl⟩ := H
    have hnb18 := NB785_784.out
    have hnc18 := NB784_785.out
    obtain ⟨hcz19_0, hcz19_1, hcz19_2, hfz19_0, hfz19_1, hfz19_2⟩ := bK3 (w := wr) BK785
    obtain ⟨hcz20_0, hcz20_1, hcz20_2, hfz20_0, hfz20_1, hfz20_2⟩ := bK3 (w := wr) BK784
    go_wp2
    refine rC gb784 23 #[.int .i64 x786000_1, .int .i64 x786001_1, .bool x786002_1] (bU BK784) Tryd.underlying23 ?_
    exact ⟨rR, bZ HB⟩
end Go.Proofs.YtkdmplfldfagnaaDoor.Pf
end
section
/- What is proved here: what the laws' own helpers over lists of points answer (a copy is the list, equal lists are equal). No conditions but that a list fits into memory. -/
set_option linter.unusedVariables false
set_option linter.unusedSimpArgs false
namespace Go.Proofs.YtkdmplfldfagnaaDoor.Pts
open Go.RowKit Go.Proofs.YtkdmplfldfagnaaDoor.Pf Go.Proofs.YtkdmplfldfagnaaDoorW.PrintWords Go.Proofs.YtkdmplfldfagnaaDoor.Link
theorem eqPoint_same (x y : Int) (z : Bool) : laws_eqPoint.f x y z x y z = some true := by simp [laws_eqPoint.f]
def conv (p : S42) : S23 := ⟨p.f0, p.f1, p.f2⟩
theorem rdA (xs : List S42) (n : Nat) (h : n < xs.length) : rd_T42 xs (n : Int) = xs[n] := by
  unfold rd_T42
  rw [Int.toNat_natCast, List.getD_eq_getElem?_getD, List.getElem?_eq_getElem h, Option.getD_some]
theorem rdB (xs : List S23) (n : Nat) (h : n < xs.length) : rd_T23 xs (n : Int) = xs[n] := by
  unfold rd_T23
  rw [Int.toNat_natCast, List.getD_eq_getElem?_getD, List.getElem?_eq_getElem h, Option.getD_some]
theorem toPointS_l0 (xs : List S42) (hl : xs.length ≤ 1048576) : ∀ (d i k : Nat), i + d = xs.length → d < k →
    laws_toPointS.l0 k xs ((xs.take i).map conv ++ List.replicate d z23) (i : Int) = some (xs.map conv)
  | 0, i, k, hi, hk => by
    obtain ⟨k, rfl⟩ : ∃ m, k = m + 1 := ⟨k - 1, by omega⟩
    simp only [laws_toPointS.l0]
    rw [if_neg (by omega), List.take_of_length_le (by omega)]; simp
  | d + 1, i, k, hi, hk => by
    obtain ⟨k, rfl⟩ : ∃ m, k = m + 1 := ⟨k - 1, by omega⟩
    have h1 : i < xs.length := by omega
    simp only [laws_toPointS.l0, laws_toPoint.f, Option.bind_some]
    rw [if_pos (by omega), if_pos (by omega), if_pos (by simp; omega), Int.toNat_natCast, wrap_in (by omega) (by omega), rdA xs i h1]
    have hs : ((xs.take i).map conv ++ List.replicate (d + 1) z23).set i (⟨xs[i].f0, xs[i].f1, xs[i].f2⟩ : S23) = (xs.take (i + 1)).map conv ++ List.replicate d z23 := by
      rw [List.set_append_right _ _ (by simp; omega)]
      rw [List.take_succ_eq_append_getElem h1, List.length_map, List.length_take, Nat.min_eq_left (by omega), Nat.sub_self, List.replicate_succ, List.set_cons_zero, List.map_append, List.append_assoc]
      rfl
    rw [hs, show (i : Int) + 1 = ((i + 1 : Nat) : Int) by omega]
    exact toPointS_l0 xs hl d (i + 1) k (by omega) (by omega)
theorem toPointS_f (xs : List S42) (hl : xs.length ≤ 1048576) (k : Nat) (hk : xs.length < k) : laws_toPointS.f k xs = some (xs.map conv) := by
  unfold laws_toPointS.f
  rw [if_pos (by omega), if_pos (by omega), Int.toNat_natCast]
  have h := toPointS_l0 xs hl xs.length 0 k (by omega) hk
  simpa using h
theorem eqPointS_l0 (xs : List S23) (hl : xs.length ≤ 1048576) : ∀ (d i k : Nat), i + d = xs.length → d < k → laws_eqPointS.l0 k xs xs (i : Int) = some true
  | 0, i, k, hi, hk => by
    obtain ⟨k, rfl⟩ : ∃ m, k = m + 1 := ⟨k - 1, by omega⟩
    simp only [laws_eqPointS.l0]
    rw [if_neg (by omega)]
  | d + 1, i, k, hi, hk => by
    obtain ⟨k, rfl⟩ : ∃ m, k = m + 1 := ⟨k - 1, by omega⟩
    simp only [laws_eqPointS.l0, eqPoint_same, Option.bind_some]
    rw [if_pos (by omega), if_pos (by omega), if_pos (by omega), if_pos trivial, wrap_in (by omega) (by omega), show (i : Int) + 1 = ((i + 1 : Nat) : Int) by omega]
    exact eqPointS_l0 xs hl d (i + 1) k (by omega) (by omega)
theorem eqPointS_same (xs : List S23) (hl : xs.length ≤ 1048576) (k : Nat) (hk : xs.length < k) : laws_eqPointS.f k xs xs = some true := by
  unfold laws_eqPointS.f
  rw [if_pos rfl]
  exact eqPointS_l0 xs hl xs.length 0 k (by omega) hk
theorem sz_ge (n : Nat) (m : Int) (h0 : 0 ≤ m) (h1 : m ≤ 1048576) (hn : (n : Int) ≤ 9223372036854775807) (h : ¬ wrap64 (m - (n : Int)) < 0) : (n : Int) ≤ m := by
  rw [wrap_in (by omega) (by omega)] at h; omega
theorem szPointS_f (xs : List S42) (m : Int) (h0 : 0 ≤ m) (h1 : m ≤ 1048576) (hn : xs.length ≤ 9223372036854775807) :
    laws_szPointS.f xs m = some (-1) ∨ ((xs.length : Int) ≤ m ∧ laws_szPointS.f xs m = some (m - (xs.length : Int))) := by
  unfold laws_szPointS.f
  by_cases h : wrap64 (m - (xs.length : Int)) < 0
  · left; rw [if_pos h]
  · right
    have := sz_ge xs.length m h0 h1 (by omega) h
    rw [if_neg h, wrap_in (by omega) (by omega)]
    exact ⟨this, rfl⟩
end Go.Proofs.YtkdmplfldfagnaaDoor.Pts
end
section
/- What is proved here: what the laws' marks over lists of points answer, and what CommitteeOk answers, of the program and of the reference alike. No conditions but that a list fits into memory. -/
set_option linter.unusedVariables false
set_option linter.unusedSimpArgs false
namespace Go.Proofs.YtkdmplfldfagnaaDoor.Comm
open Go.RowKit Go.Proofs.YtkdmplfldfagnaaDoor.Pf Go.Proofs.YtkdmplfldfagnaaDoorW.PrintWords Go.Proofs.YtkdmplfldfagnaaDoor.Crv Go.Proofs.YtkdmplfldfagnaaDoor.Link Go.Proofs.YtkdmplfldfagnaaDoor.Pts
abbrev PS := S23
theorem set_mid (us : List PS) (y v : PS) (ys : List PS) (n : Nat) (h : us.length = n) : (us ++ y :: ys).set n v = us ++ v :: ys := by
  subst h
  rw [List.set_append_right _ _ (by omega), Nat.sub_self, List.set_cons_zero]
theorem rd_mid (us : List PS) (y : PS) (ys : List PS) (n : Nat) (h : us.length = n) : rd_T23 (us ++ y :: ys) (n : Int) = y := by
  subst h
  rw [rdB _ _ (by simp)]
  simp
def mk3 (m : Int) : PS := ⟨m, m + 1, (Int.tmod (m + 1 + 1) 3 == 0)⟩
def marksP (m : Int) : Nat → List PS
  | 0 => []
  | n + 1 => marksP m n ++ [mk3 (m + 3 * (n : Int))]
theorem marksP_length (m : Int) : ∀ n, (marksP m n).length = n
  | 0 => rfl
  | n + 1 => by rw [marksP, List.length_append, marksP_length m n]; rfl
theorem marksP_get (m : Int) : ∀ (n i : Nat) (h : i < n), rd_T23 (marksP m n) (i : Int) = mk3 (m + 3 * (i : Int))
  | 0, i, h => by omega
  | n + 1, i, h => by
    rw [marksP]
    by_cases c : i = n
    · subst c
      exact rd_mid _ _ [] _ (marksP_length m i)
    · have e : rd_T23 (marksP m n ++ [mk3 (m + 3 * (n : Int))]) (i : Int) = rd_T23 (marksP m n) (i : Int) := by
        have hl := marksP_length m n
        rw [rdB _ _ (by simp; omega), rdB _ _ (by omega)]
        rw [List.getElem_append_left]
      rw [e]
      exact marksP_get m n i (by omega)
/-- a key that may be in a committee -/
def good (p : PS) : Bool := inG (dec p.f0 p.f1 p.f2) && !p.f2
def okC (c : List PS) : Bool := c.all good && ((c.length : Int) == 8)
theorem impl_ok_l0 (xs : List PS) (hl : xs.length ≤ 1048576) : ∀ (d i k : Nat), i + d = xs.length → d + 50 ≤ k →
    impl_CommitteeOk.l0 k xs (xs.length : Int) (i : Int) = some ((xs.drop i).all good)
  | 0, i, k, hi, hk => by
    obtain ⟨k, rfl⟩ : ∃ m, k = m + 1 := ⟨k - 1, by omega⟩
    simp only [impl_CommitteeOk.l0]
    rw [if_neg (by omega), List.drop_of_length_le (by omega)]; rfl
  | d + 1, i, k, hi, hk => by
    obtain ⟨k, rfl⟩ : ∃ m, k = m + 1 := ⟨k - 1, by omega⟩
    have h1 : i < xs.length := by omega
    simp only [impl_CommitteeOk.l0, impl_InGroup_eq k (by omega), Option.bind_some]
    rw [if_pos (by omega), if_pos (by omega), if_pos (by omega), wrap_in (by omega) (by omega), rdB xs i h1, List.drop_eq_getElem_cons h1, List.all_cons, show (i : Int) + 1 = ((i + 1 : Nat) : Int) by omega, impl_ok_l0 xs hl d (i + 1) k (by omega) (by omega), good]
    by_cases c1 : xs[i].f2 = true
    · rw [if_pos c1, c1]; simp
    · rw [if_neg c1, Bool.eq_false_iff.mpr c1]
      by_cases c2 : inG (dec xs[i].f0 xs[i].f1 false) = true
      · rw [if_pos c2, c2]; rfl
      · rw [if_neg c2, Bool.eq_false_iff.mpr c2]; rfl
theorem impl_CommitteeOk_eq (xs : List PS) (hl : xs.length ≤ 1048576) (k : Nat) (hk : xs.length + 50 ≤ k) : impl_CommitteeOk.f k xs = some (okC xs) := by
  unfold impl_CommitteeOk.f okC
  by_cases h : (xs.length : Int) = 8
  · have e := impl_ok_l0 xs hl xs.length 0 k (by omega) hk
    rw [List.drop_zero] at e
    rw [if_pos h, h, beq_self_eq_true, Bool.and_true, ← h]
    exact e
  · rw [if_neg h, beq_false_of_ne h, Bool.and_false]
theorem spec_ok_l0 (xs : List PS) (hl : xs.length ≤ 1048576) : ∀ (d i k : Nat), i + d = xs.length → d + 50 ≤ k →
    spec_CommitteeOk.l0 k (i : Int) xs = some ((xs.drop i).all good && ((xs.length : Int) == 8))
  | 0, i, k, hi, hk => by
    obtain ⟨k, rfl⟩ : ∃ m, k = m + 1 := ⟨k - 1, by omega⟩
    simp only [spec_CommitteeOk.l0]
    rw [if_neg (by omega), List.drop_of_length_le (by omega)]; rfl
  | d + 1, i, k, hi, hk => by
    obtain ⟨k, rfl⟩ : ∃ m, k = m + 1 := ⟨k - 1, by omega⟩
    have h1 : i < xs.length := by omega
    simp only [spec_CommitteeOk.l0, spec_InGroup_eq k (by omega), Option.bind_some]
    rw [if_pos (by omega), if_pos (by omega), wrap_in (by omega) (by omega), rdB xs i h1, List.drop_eq_getElem_cons h1, List.all_cons, show (i : Int) + 1 = ((i + 1 : Nat) : Int) by omega, spec_ok_l0 xs hl d (i + 1) k (by omega) (by omega), good]
    by_cases c1 : xs[i].f2 = true
    · rw [if_pos c1, c1]
      by_cases c2 : inG (dec xs[i].f0 xs[i].f1 true) = true
      · rw [if_pos c2]; simp
      · rw [if_neg c2]; simp
    · rw [if_neg c1, Bool.eq_false_iff.mpr c1]
      by_cases c2 : inG (dec xs[i].f0 xs[i].f1 false) = true
      · rw [if_pos c2, c2]; rfl
      · rw [if_neg c2, Bool.eq_false_iff.mpr c2]; rfl
theorem spec_CommitteeOk_eq (xs : List PS) (hl : xs.length ≤ 1048576) (k : Nat) (hk : xs.length + 50 ≤ k) : spec_CommitteeOk.f k xs = some (okC xs) := by
  unfold spec_CommitteeOk.f okC
  have e := spec_ok_l0 xs hl xs.length 0 k (by omega) hk
  rw [List.drop_zero] at e
  exact e
end Go.Proofs.YtkdmplfldfagnaaDoor.Comm
end
section
/- What is proved here: the digest of a text is 32 bytes, the same by the program and by the reference; so is the digest of a pair. No conditions but that the texts are no longer than 100000000 bytes. -/
set_option linter.unusedVariables false
set_option linter.unusedSimpArgs false
namespace Go.Proofs.YtkdmplfldfagnaaDoor.Tree
open Go.RowKit Go.Proofs.YtkdmplfldfagnaaDoor.Pf Go.Proofs.YtkdmplfldfagnaaDoorW.PrintWords
def D (t : ByteArray) : ByteArray := Kp.digI t
theorem D_size (t : ByteArray) : (D t).size = 32 := by
  unfold D Kp.digI
  rw [ByteArray.size_extract, Kp.tx_size]
  decide
theorem impl_D {t : ByteArray} (h : t.size ≤ 100000000) : impl_Digest.f t = some (D t) := by
  unfold impl_Digest.f Kp.impl_Digest.f
  rw [if_pos (by omega)]
  rfl
theorem spec_D {t : ByteArray} (h : t.size ≤ 100000000) : spec_Digest.f t = some (D t) := by
  rw [← impl_D h]
  exact (Kp.digest_eq t).symm
theorem impl_pair {a b : ByteArray} (ha : a.size ≤ 40000000) (hb : b.size ≤ 40000000) : impl_DigestPair.f a b = some (D (a ++ b)) := by
  unfold impl_DigestPair.f
  rw [if_pos (by omega), impl_D (by rw [ByteArray.size_append]; omega)]
  rfl
theorem spec_pair {a b : ByteArray} (ha : a.size ≤ 40000000) (hb : b.size ≤ 40000000) : spec_DigestPair.f a b = some (D (a ++ b)) := by
  unfold spec_DigestPair.f
  rw [if_pos (by omega), spec_D (by rw [ByteArray.size_append]; omega)]
  rfl
attribute [irreducible] D
end Go.Proofs.YtkdmplfldfagnaaDoor.Tree
end
section
/- What is proved here: what the laws' own helpers over lists of texts answer (equal lists are equal, a copy is the list, the size taken bounds all). No conditions but that a list is no longer than a Go slice can be. -/
set_option linter.unusedVariables false
set_option linter.unusedSimpArgs false
namespace Go.Proofs.YtkdmplfldfagnaaDoor.Strs
open Go.RowKit Go.Proofs.YtkdmplfldfagnaaDoor.Pf Go.Proofs.YtkdmplfldfagnaaDoorW.PrintWords

theorem wrap_in {i : Int} (h0 : -9223372036854775808 ≤ i) (h : i ≤ 9223372036854775807) : wrap64 i = i := by
  unfold wrap64; omega
theorem rdOf_get {xs : List ByteArray} {i : Nat} (h : i < xs.length) : rdOf ByteArray.empty xs (i : Int) = xs[i] := by
  unfold rdOf
  rw [Int.toNat_natCast, List.getD_eq_getElem?_getD, List.getElem?_eq_getElem h]
  rfl

def total (xs : List ByteArray) : Nat := (xs.map ByteArray.size).sum
theorem total_cons (x : ByteArray) (xs : List ByteArray) : total (x :: xs) = x.size + total xs := by simp [total]
theorem total_mem {x : ByteArray} {xs : List ByteArray} (h : x ∈ xs) : x.size ≤ total xs := by
  induction xs with
  | nil => simp at h
  | cons y ys ih =>
    rw [total_cons]
    rcases List.mem_cons.1 h with rfl | h
    · omega
    · have := ih h; omega
end Go.Proofs.YtkdmplfldfagnaaDoor.Strs
end
section
/- What is proved here: what FoldBranch answers, as the program and as the reference write it. No conditions but that the texts are no longer than 2^20 bytes. -/
set_option linter.unusedVariables false
set_option linter.unusedSimpArgs false
namespace Go.Proofs.YtkdmplfldfagnaaDoor.Tree
open Go.RowKit Go.Proofs.YtkdmplfldfagnaaDoor.Pf Go.Proofs.YtkdmplfldfagnaaDoorW.PrintWords Go.Proofs.YtkdmplfldfagnaaDoor.Strs
theorem pow_small {n : Nat} (h : n ≤ 5) : 1 ≤ 2 ^ n ∧ 2 ^ n ≤ 32 := by
  have : ∀ m : Nat, m < 6 → 1 ≤ 2 ^ m ∧ 2 ^ m ≤ 32 := by decide
  exact this n (by omega)
theorem l01In_f (a b c : Int) : spec_l01In.f a b c = some (decide (b ≤ a ∧ a ≤ c)) := by
  unfold spec_l01In.f
  by_cases h : a ≥ b
  · rw [if_pos h]; congr 1; apply decide_eq_decide.2; omega
  · rw [if_neg h, decide_eq_false (by omega)]
end Go.Proofs.YtkdmplfldfagnaaDoor.Tree
end
section
/- What is proved here: the levels of a tree of digests, its root and its branches, as the program and as the reference write them. No conditions but that there are 32 leaves at most, none longer than 2^20 bytes. -/
set_option linter.unusedVariables false
set_option linter.unusedSimpArgs false
namespace Go.Proofs.YtkdmplfldfagnaaDoor.Tree
open Go.RowKit Go.Proofs.YtkdmplfldfagnaaDoor.Pf Go.Proofs.YtkdmplfldfagnaaDoorW.PrintWords Go.Proofs.YtkdmplfldfagnaaDoor.Strs
abbrev BA := ByteArray
/-- The digests of the pairs. -/
def up1 : List BA → List BA
  | a :: b :: r => D (a ++ b) :: up1 r
  | _ => []
theorem up1_length : ∀ (n : Nat) (x : List BA), x.length = 2 * n → (up1 x).length = n
  | 0, [], _ => rfl
  | n + 1, a :: b :: r, h => by
    have := up1_length n r (by simp only [List.length_cons] at h; omega)
    simp [up1, this]
theorem up1_get : ∀ (n : Nat) (x : List BA), x.length = 2 * n → ∀ i (h : i < n) (h1 : i < (up1 x).length) (h2 : 2 * i < x.length) (h3 : 2 * i + 1 < x.length), (up1 x)[i] = D (x[2 * i] ++ x[2 * i + 1])
  | 0, _, _, i, h, _, _, _ => by omega
  | n + 1, a :: b :: r, hl, i, h, h1, h2, h3 => by
    match i with
    | 0 => rfl
    | i + 1 =>
      have hl' : r.length = 2 * n := by simp only [List.length_cons] at hl; omega
      have e := up1_get n r hl' i (by omega) (by rw [up1_length n r hl']; omega) (by omega) (by omega)
      simp only [up1, List.getElem_cons_succ]
      rw [e]
      simp only [show 2 * (i + 1) = 2 * i + 1 + 1 by omega, List.getElem_cons_succ]
theorem up1_size : ∀ (n : Nat) (x : List BA), x.length = 2 * n → ∀ y ∈ up1 x, y.size = 32
  | 0, [], _, y, hy => by simp [up1] at hy
  | n + 1, a :: b :: r, h, y, hy => by
    simp only [up1, List.mem_cons] at hy
    rcases hy with rfl | hy
    · exact D_size _
    · exact up1_size n r (by simp only [List.length_cons] at h; omega) y hy
def levels : Nat → List BA → List (List BA)
  | 0, x => [x]
  | j + 1, x => x :: levels j (up1 x)
def tops : Nat → List BA → List BA
  | 0, x => x
  | j + 1, x => tops j (up1 x)
def lows : Nat → List BA → List (List BA)
  | 0, _ => []
  | j + 1, x => x :: lows j (up1 x)
theorem levels_split (j : Nat) : ∀ x, levels j x = lows j x ++ [tops j x] := by
  induction j with
  | zero => intro x; rfl
  | succ j ih => intro x; simp only [levels, lows, tops, ih, List.cons_append]
theorem lows_length (j : Nat) : ∀ x, (lows j x).length = j := by
  induction j with
  | zero => intro x; rfl
  | succ j ih => intro x; simp only [lows, List.length_cons, ih]
theorem tops_length (j : Nat) : ∀ x : List BA, x.length = 2 ^ j → (tops j x).length = 1 := by
  induction j with
  | zero => intro x h; exact h
  | succ j ih => intro x h; exact ih _ (up1_length (2 ^ j) x (by rw [h, Nat.pow_succ]; omega))
theorem tops_size (j : Nat) : ∀ x : List BA, x.length = 2 ^ j → (∀ y ∈ x, y.size = 32) → ∀ y ∈ tops j x, y.size = 32 := by
  induction j with
  | zero => intro x h hs; exact hs
  | succ j ih => intro x h hs; have hl : x.length = 2 * 2 ^ j := by (rw [h, Nat.pow_succ]; omega)
                 exact ih _ (up1_length (2 ^ j) x hl) (up1_size (2 ^ j) x hl)
theorem l3_up (k : Nat) (x6 : List (List BA)) (x3 : List BA) (n : Nat) (hn : x3.length = 2 * n) (hn2 : n ≤ 1000) (hs : ∀ y ∈ x3, y.size = 32) (h6 : x6.length ≤ 1000) (d : Nat) : ∀ i, i + d = n →
    impl_levelsOfTree.l3 (k + d + 1) x6 x3 ((up1 x3).take i) ((2 * i : Nat) : Int) = impl_levelsOfTree.l2 k (x6 ++ [up1 x3]) (up1 x3) := by
  have hl := up1_length n x3 hn
  induction d with
  | zero =>
    intro i hi
    simp only [impl_levelsOfTree.l3, Nat.add_zero]
    rw [if_neg (by omega), if_pos (by omega), List.take_of_length_le (by omega)]
  | succ d ih =>
    intro i hi
    have h1 : 2 * i < x3.length := by omega
    have h2 : 2 * i + 1 < x3.length := by omega
    rw [show k + (d + 1) + 1 = (k + d + 1) + 1 by omega]
    simp only [impl_levelsOfTree.l3]
    have e1 : wrap64 (((2 * i : Nat) : Int) + 1) = ((2 * i + 1 : Nat) : Int) := by rw [wrap_in (by omega) (by omega)]; omega
    have e2 : wrap64 (((2 * i : Nat) : Int) + 2) = ((2 * (i + 1) : Nat) : Int) := by rw [wrap_in (by omega) (by omega)]; omega
    rw [if_pos (by omega), if_pos (by omega), e1, if_pos (by omega), if_pos (by omega), rdOf_get h1, rdOf_get h2, impl_pair (by rw [hs _ (List.getElem_mem h1)]; omega) (by rw [hs _ (List.getElem_mem h2)]; omega), Option.bind_some,
      if_pos (by rw [List.length_take]; omega), e2]
    have hg := up1_get n x3 hn i (by omega) (by omega) h1 h2
    rw [← hg, ← List.take_succ_eq_append_getElem (by omega)]
    exact ih (i + 1) (by omega)
theorem l2_levels (j : Nat) : ∀ (pre : List (List BA)) (x : List BA), j ≤ 5 → x.length = 2 ^ j → pre.length + j ≤ 100 → (∀ y ∈ x, y.size = 32) → ∀ k, 40 * (j + 1) ≤ k → impl_levelsOfTree.l2 k (pre ++ [x]) x = some (pre ++ levels j x) := by
  induction j with
  | zero =>
    intro pre x hj hx hp hs k hk
    obtain ⟨k, rfl⟩ : ∃ m, k = m + 1 := ⟨k - 1, by omega⟩
    simp only [impl_levelsOfTree.l2]
    rw [if_neg (by rw [hx]; decide)]
    rfl
  | succ j ih =>
    intro pre x hj hx hp hs k hk
    have hpj := pow_small (show j ≤ 5 by omega)
    have hx2 : x.length = 2 * 2 ^ j := by rw [hx, Nat.pow_succ]; omega
    obtain ⟨k, rfl⟩ : ∃ m, k = (m + 2 ^ j + 1) + 1 := ⟨k - 2 ^ j - 2, by omega⟩
    simp only [impl_levelsOfTree.l2]
    rw [if_pos (by omega)]
    have h3 := l3_up k (pre ++ [x]) x (2 ^ j) hx2 (by omega) hs (by simp; omega) (2 ^ j) 0 (by omega)
    rw [List.take_zero] at h3
    have h3' : impl_levelsOfTree.l3 (k + 2 ^ j + 1) (pre ++ [x]) x [] 0 = impl_levelsOfTree.l2 k (pre ++ [x] ++ [up1 x]) (up1 x) := h3
    rw [h3', ih (pre ++ [x]) (up1 x) (by omega) (up1_length _ _ hx2) (by simp; omega) (up1_size _ _ hx2) k (by omega)]
    simp [levels]
/-- The least power of two that is no less than n (and 1 for 0), for n ≤ 32; its exponent. -/
def lg (n : Nat) : Nat := if n ≤ 1 then 0 else if n ≤ 2 then 1 else if n ≤ 4 then 2 else if n ≤ 8 then 3 else if n ≤ 16 then 4 else 5
theorem np_facts : ∀ m : Nat, m < 33 → m ≤ 2 ^ lg m ∧ lg m ≤ 5 ∧ (m ≠ 0 → ((Go.bits .and .i64 (m : Int) (wrap64 ((m : Int) - 1))) = 0 ↔ 2 ^ lg m = m)) ∧ (2 ^ lg m ≠ m → lg (m + 1) = lg m) := by decide +kernel
def hashes (l : List BA) : List BA := l.map D ++ List.replicate (2 ^ lg l.length - l.length) (D ByteArray.empty)
theorem hashes_length {l : List BA} (h : l.length ≤ 32) : (hashes l).length = 2 ^ lg l.length := by
  have := (np_facts l.length (by omega)).1
  simp [hashes]; omega
theorem hashes_size (l : List BA) : ∀ y ∈ hashes l, y.size = 32 := by
  intro y hy
  unfold hashes at hy
  rcases List.mem_append.1 hy with hy | hy
  · obtain ⟨z, _, rfl⟩ := List.mem_map.1 hy
    exact D_size _
  · rw [(List.mem_replicate.1 hy).2]
    exact D_size _
theorem l1_pad (k : Nat) (d : Nat) : ∀ (x : List BA), x.length ≤ 32 → x.length + d = 2 ^ lg x.length → impl_levelsOfTree.l1 (k + d + 1) x = impl_levelsOfTree.l2 k [x ++ List.replicate d (D ByteArray.empty)] (x ++ List.replicate d (D ByteArray.empty)) := by
  induction d with
  | zero =>
    intro x hx hd
    obtain ⟨_, _, h1, _⟩ := np_facts x.length (by omega)
    have h0 : x.length ≠ 0 := by intro e; rw [e] at hd; exact absurd hd (by decide)
    simp only [impl_levelsOfTree.l1, Nat.add_zero]
    rw [if_neg (by omega), if_pos ((h1 h0).2 (by omega))]
    simp
  | succ d ih =>
    intro x hx hd
    obtain ⟨_, h5, h1, h2⟩ := np_facts x.length (by omega)
    have hp := pow_small h5
    have e2 := h2 (by omega)
    have hr : x ++ List.replicate (d + 1) (D ByteArray.empty) = (x ++ [D ByteArray.empty]) ++ List.replicate d (D ByteArray.empty) := by
      rw [List.replicate_succ, List.append_assoc, List.singleton_append]
    have hl : (x ++ [D ByteArray.empty]).length = x.length + 1 := by simp
    have hi := ih (x ++ [D ByteArray.empty]) (by omega) (by rw [hl, e2]; omega)
    rw [show k + (d + 1) + 1 = (k + d + 1) + 1 by omega, impl_levelsOfTree.l1]
    have hD : impl_Digest.f (⟨#[]⟩ : ByteArray) = some (D ByteArray.empty) := impl_D (t := ByteArray.empty) (by decide)
    have hx8 : x.length < 8796093022208 := by omega
    rw [hr, ← hi]
    have hc : ∀ a b : Option (List (List BA)), (if (x.length : Int) = 0 then a else if (Go.bits .and .i64 (x.length : Int) (wrap64 ((x.length : Int) - 1))) = 0 then b else a) = a := by
      intro a b
      by_cases c : (x.length : Int) = 0
      · rw [if_pos c]
      · rw [if_neg c, if_neg (fun e => by have := (h1 (by omega)).1 e; omega)]
    rw [hD, Option.bind_some, if_pos hx8, hc]
theorem l0_map (k : Nat) (l : List BA) (hl : l.length ≤ 32) (hs : ∀ y ∈ l, y.size ≤ 1048576) (d : Nat) : ∀ i, i + d = l.length → impl_levelsOfTree.l0 (k + d + 1) ((l.take i).map D) l (l.length : Int) (i : Int) = impl_levelsOfTree.l1 k (l.map D) := by
  induction d with
  | zero =>
    intro i hi
    simp only [impl_levelsOfTree.l0, Nat.add_zero]
    rw [if_neg (by omega), List.take_of_length_le (by omega)]
  | succ d ih =>
    intro i hi
    have h1 : i < l.length := by omega
    have h2 := hs _ (List.getElem_mem h1)
    rw [show k + (d + 1) + 1 = (k + d + 1) + 1 by omega, impl_levelsOfTree.l0]
    rw [if_pos (by omega), if_pos (by omega), if_pos (by omega), rdOf_get h1, impl_D (by omega), Option.bind_some, if_pos (by simp; omega), wrap_in (by omega) (by omega), show (i : Int) + 1 = ((i + 1 : Nat) : Int) by omega, ← ih (i + 1) (by omega),
      List.take_succ_eq_append_getElem h1, List.map_append, List.map_singleton]
theorem levels_f (k : Nat) (hk : 400 ≤ k) (l : List BA) (hl : l.length ≤ 32) (hs : ∀ y ∈ l, y.size ≤ 1048576) : impl_levelsOfTree.f k l = some (levels (lg l.length) (hashes l)) := by
  obtain ⟨h1, h2, _, _⟩ := np_facts l.length (by omega)
  have hp := pow_small h2
  obtain ⟨m, rfl⟩ : ∃ m, k = ((m + (2 ^ lg l.length - l.length) + 1) + l.length) + 1 := ⟨k - 2 - l.length - (2 ^ lg l.length - l.length), by omega⟩
  unfold impl_levelsOfTree.f
  have h3 := l0_map (m + (2 ^ lg l.length - l.length) + 1) l hl hs l.length 0 (by omega)
  have h3' : impl_levelsOfTree.l0 ((m + (2 ^ lg l.length - l.length) + 1) + l.length + 1) [] l (l.length : Int) 0 = impl_levelsOfTree.l1 (m + (2 ^ lg l.length - l.length) + 1) (l.map D) := h3
  have hm : (l.map D).length = l.length := List.length_map D
  rw [h3', l1_pad m (2 ^ lg l.length - l.length) (l.map D) (by omega) (by rw [hm]; omega)]
  exact l2_levels (lg l.length) [] (hashes l) h2 (hashes_length hl) (by simp; omega) (hashes_size l) m (by omega)
def root (l : List BA) : BA := if l.length ≤ 32 then rdOf ByteArray.empty (tops (lg l.length) (hashes l)) 0 else ByteArray.empty
theorem rd_last (a : List (List BA)) (b : List BA) : rd_L6 (a ++ [b]) ((a.length : Nat) : Int) = b := by
  unfold rd_L6
  simp
theorem impl_root (k : Nat) (hk : 400 ≤ k) (l : List BA) (hs : ∀ y ∈ l, y.size ≤ 1048576) : impl_RootOf.f k l = some (root l) := by
  unfold impl_RootOf.f root
  by_cases c : l.length ≤ 32
  case neg => rw [if_pos (by omega), if_neg c]; rfl
  rw [if_neg (by omega), if_pos c, levels_f k hk l c hs, Option.bind_some, levels_split]
  obtain ⟨h1, h2, _, _⟩ := np_facts l.length (by omega)
  have e1 : (lows (lg l.length) (hashes l) ++ [tops (lg l.length) (hashes l)]).length = lg l.length + 1 := by rw [List.length_append, lows_length]; rfl
  have e2 : wrap64 ((((lows (lg l.length) (hashes l) ++ [tops (lg l.length) (hashes l)]).length : Nat) : Int) - 1) = (((lows (lg l.length) (hashes l)).length : Nat) : Int) := by
    rw [e1, lows_length, wrap_in (by omega) (by omega)]; omega
  rw [e2, rd_last, if_pos (by omega), if_pos (by rw [e1, lows_length]; omega), if_pos (by rw [tops_length _ _ (hashes_length c)]; decide)]
theorem root_size {l : List BA} (h : l.length ≤ 32) : (root l).size = 32 := by
  unfold root
  rw [if_pos h]
  have h1 := tops_length _ _ (hashes_length h)
  have h2 : (0 : Nat) < (tops (lg l.length) (hashes l)).length := by omega
  have e : rdOf ByteArray.empty (tops (lg l.length) (hashes l)) 0 = _ := rdOf_get (i := 0) h2
  rw [e]
  exact tops_size _ _ (hashes_length h) (hashes_size l) _ (List.getElem_mem h2)
-- the reference
theorem spec_up (x0 : List BA) (n : Nat) (hn : x0.length = 2 * n) (hn2 : n ≤ 1000) (hs : ∀ y ∈ x0, y.size = 32) (d : Nat) : ∀ i k, i + d = n → d < k → spec_l10Up.l0 k x0 ((up1 x0).take i) ((2 * i : Nat) : Int) = some (up1 x0) := by
  have hl := up1_length n x0 hn
  induction d with
  | zero =>
    intro i k hi hk
    obtain ⟨k, rfl⟩ : ∃ m, k = m + 1 := ⟨k - 1, by omega⟩
    simp only [spec_l10Up.l0]
    rw [wrap_in (by omega) (by omega), if_neg (by omega), List.take_of_length_le (by omega)]
  | succ d ih =>
    intro i k hi hk
    obtain ⟨k, rfl⟩ : ∃ m, k = m + 1 := ⟨k - 1, by omega⟩
    have h1 : 2 * i < x0.length := by omega
    have h2 : 2 * i + 1 < x0.length := by omega
    simp only [spec_l10Up.l0]
    have e1 : wrap64 (((2 * i : Nat) : Int) + 1) = ((2 * i + 1 : Nat) : Int) := by rw [wrap_in (by omega) (by omega)]; omega
    have e2 : wrap64 (((2 * i : Nat) : Int) + 2) = ((2 * (i + 1) : Nat) : Int) := by rw [wrap_in (by omega) (by omega)]; omega
    rw [e1, if_pos (by omega), if_pos (by omega), if_pos (by omega), if_pos (by omega), rdOf_get h1, rdOf_get h2, spec_pair (by rw [hs _ (List.getElem_mem h1)]; omega) (by rw [hs _ (List.getElem_mem h2)]; omega), Option.bind_some,
      if_pos (by rw [List.length_take]; omega), e2]
    have hg := up1_get n x0 hn i (by omega) (by omega) h1 h2
    rw [← hg, ← List.take_succ_eq_append_getElem (by omega)]
    exact ih (i + 1) k (by omega) (by omega)
theorem spec_up_f (k : Nat) (x0 : List BA) (n : Nat) (hn : x0.length = 2 * n) (hn2 : n ≤ 1000) (hs : ∀ y ∈ x0, y.size = 32) (hk : n < k) : spec_l10Up.f k x0 = some (up1 x0) := by
  have h := spec_up x0 n hn hn2 hs n 0 k (by omega) hk
  unfold spec_l10Up.f
  exact h
theorem lev_dec : ∀ n : Nat, n < 33 → spec_LevelsOf.f 10 (n : Int) = some ((lg n : Nat) : Int) ∧ 0 ≤ IntKind.u64.wrap ((lg n : Nat) : Int) ∧ shl .i64 1 (IntKind.u64.wrap ((lg n : Nat) : Int)) = ((2 ^ lg n : Nat) : Int) := by decide +kernel
theorem spec_lev (k : Nat) (hk : 10 ≤ k) (n : Nat) (hn : n ≤ 32) : spec_LevelsOf.f k (n : Int) = some ((lg n : Nat) : Int) :=
  at_rounds (g := fun k => spec_LevelsOf.f k (n : Int)) (fun k => spec_LevelsOf.mono (n : Int) k) hk (lev_dec n (by omega)).1
theorem spec_l1 (l : List BA) (hl : l.length ≤ 32) (d : Nat) : ∀ (x : List BA) (k : Nat), x.length + d = 2 ^ lg l.length → 40 + d ≤ k → spec_l10Hashes.l1 k l x (D ByteArray.empty) = some (x ++ List.replicate d (D ByteArray.empty)) := by
  obtain ⟨_, b0, b1⟩ := lev_dec l.length (by omega)
  have hp := pow_small (np_facts l.length (by omega)).2.1
  induction d with
  | zero =>
    intro x k hx hk
    obtain ⟨k, rfl⟩ : ∃ m, k = m + 1 := ⟨k - 1, by omega⟩
    simp only [spec_l10Hashes.l1]
    rw [spec_lev k (by omega) _ hl, Option.bind_some, if_pos b0, b1, if_neg (by omega)]
    simp
  | succ d ih =>
    intro x k hx hk
    obtain ⟨k, rfl⟩ : ∃ m, k = m + 1 := ⟨k - 1, by omega⟩
    simp only [spec_l10Hashes.l1]
    rw [spec_lev k (by omega) _ hl, Option.bind_some, if_pos b0, b1, if_pos (by omega), if_pos (by omega), ih (x ++ [D ByteArray.empty]) k (by simp; omega) (by omega), List.replicate_succ, List.append_assoc, List.singleton_append]
theorem spec_l0h (l : List BA) (hl : l.length ≤ 32) (hs : ∀ y ∈ l, y.size ≤ 1048576) (d : Nat) : ∀ i k, i + d = l.length → 100 + d ≤ k → spec_l10Hashes.l0 k l ((l.take i).map D) (i : Int) = some (hashes l) := by
  induction d with
  | zero =>
    intro i k hi hk
    obtain ⟨k, rfl⟩ : ∃ m, k = m + 1 := ⟨k - 1, by omega⟩
    have h1 := np_facts l.length (by omega)
    have hp := pow_small h1.2.1
    have hD : spec_Digest.f (⟨#[]⟩ : ByteArray) = some (D ByteArray.empty) := spec_D (t := ByteArray.empty) (by decide)
    simp only [spec_l10Hashes.l0]
    rw [if_neg (by omega), List.take_of_length_le (by omega), hD, Option.bind_some, spec_l1 l hl (2 ^ lg l.length - l.length) _ k (by rw [List.length_map]; omega) (by omega)]
    rfl
  | succ d ih =>
    intro i k hi hk
    obtain ⟨k, rfl⟩ : ∃ m, k = m + 1 := ⟨k - 1, by omega⟩
    have h1 : i < l.length := by omega
    have h2 := hs _ (List.getElem_mem h1)
    simp only [spec_l10Hashes.l0]
    rw [if_pos (by omega), if_pos (by omega), rdOf_get h1, spec_D (by omega), Option.bind_some, if_pos (by simp; omega), wrap_in (by omega) (by omega), show (i : Int) + 1 = ((i + 1 : Nat) : Int) by omega, ← ih (i + 1) k (by omega) (by omega),
      List.take_succ_eq_append_getElem h1, List.map_append, List.map_singleton]
theorem spec_hashes (k : Nat) (hk : 200 ≤ k) (l : List BA) (hl : l.length ≤ 32) (hs : ∀ y ∈ l, y.size ≤ 1048576) : spec_l10Hashes.f k l = some (hashes l) := by
  have h := spec_l0h l hl hs l.length 0 k (by omega) (by omega)
  unfold spec_l10Hashes.f
  exact h
theorem spec_root_l0 (j : Nat) : ∀ (x : List BA) (k : Nat), j ≤ 5 → x.length = 2 ^ j → (∀ y ∈ x, y.size = 32) → 100 + j ≤ k → spec_RootOf.l0 k x = some (rdOf ByteArray.empty (tops j x) 0) := by
  induction j with
  | zero =>
    intro x k hj hx hs hk
    obtain ⟨k, rfl⟩ : ∃ m, k = m + 1 := ⟨k - 1, by omega⟩
    simp only [spec_RootOf.l0]
    rw [if_neg (by rw [hx]; decide), if_pos (by rw [hx]; decide)]
    rfl
  | succ j ih =>
    intro x k hj hx hs hk
    obtain ⟨k, rfl⟩ : ∃ m, k = m + 1 := ⟨k - 1, by omega⟩
    have hpj := pow_small (show j ≤ 5 by omega)
    have hx2 : x.length = 2 * 2 ^ j := by rw [hx, Nat.pow_succ]; omega
    simp only [spec_RootOf.l0]
    rw [if_pos (by omega), spec_up_f k x (2 ^ j) hx2 (by omega) hs (by omega), Option.bind_some, ih (up1 x) k (by omega) (up1_length _ _ hx2) (up1_size _ _ hx2) (by omega)]
    rfl
theorem spec_root (k : Nat) (hk : 400 ≤ k) (l : List BA) (hs : ∀ y ∈ l, y.size ≤ 1048576) : spec_RootOf.f k l = some (root l) := by
  unfold spec_RootOf.f root
  by_cases c : l.length ≤ 32
  case neg => rw [if_pos (by omega), if_neg c]; rfl
  rw [if_neg (by omega), if_pos c, spec_hashes k (by omega) l c hs, Option.bind_some]
  exact spec_root_l0 _ _ k (np_facts l.length (by omega)).2.1 (hashes_length c) (hashes_size l) (by have := (np_facts l.length (by omega)).2.1; omega)
end Go.Proofs.YtkdmplfldfagnaaDoor.Tree
end
section
/- What is proved here: what CommitteeRoot answers, of the program and of the reference alike. No conditions but that a list fits into memory. -/
set_option linter.unusedVariables false
set_option linter.unusedSimpArgs false
namespace Go.Proofs.YtkdmplfldfagnaaDoor.Sgn
open Go.RowKit Go.Proofs.YtkdmplfldfagnaaDoor.Pf Go.Proofs.YtkdmplfldfagnaaDoorW.PrintWords Go.Proofs.YtkdmplfldfagnaaDoor.Crv Go.Proofs.YtkdmplfldfagnaaDoor.Link Go.Proofs.YtkdmplfldfagnaaDoor.Pts
open Go.Proofs.YtkdmplfldfagnaaDoor.Comm (PS okC impl_CommitteeOk_eq spec_CommitteeOk_eq)
open Go.Proofs.YtkdmplfldfagnaaDoor.Tree (impl_root spec_root root_size)
def ptxt (x y : Int) (z : Bool) : ByteArray :=
  if (dec x y z).isSome = true then (if z = true then (⟨#[0, 0, 0]⟩ : ByteArray) else strOfNums [((wrap64 (x + 1)) / 256) % 256, (wrap64 (x + 1)) % 256, (Int.tmod y 2) % 256]) else ⟨#[]⟩
theorem impl_PointText_eq (x y : Int) (z : Bool) : impl_PointText.f x y z = some (ptxt x y z) := by
  unfold impl_PointText.f ptxt
  rw [impl_PointOk_eq]
  simp only [Option.bind_some]
  by_cases h : (dec x y z).isSome = true
  · rw [if_pos h, if_pos h]
    by_cases c : z = true
    · rw [if_pos c, if_pos c]
    · rw [if_neg c, if_neg c]
  · rw [if_neg h, if_neg h]
theorem spec_PointText_eq (x y : Int) (z : Bool) : spec_PointText.f x y z = some (ptxt x y z) := by
  unfold spec_PointText.f ptxt
  rw [spec_PointOk_eq]
  simp only [Option.bind_some]
  by_cases h : (dec x y z).isSome = true
  · rw [if_pos h, if_pos h]
    by_cases c : z = true
    · rw [if_pos c, if_pos c]
    · rw [if_neg c, if_neg c]
  · rw [if_neg h, if_neg h]
theorem ptxt_size (x y : Int) (z : Bool) : (ptxt x y z).size ≤ 3 := by
  unfold ptxt
  repeat' split
  all_goals simp [strOfNums, ByteArray.size]
def txt (p : PS) : ByteArray := ptxt p.f0 p.f1 p.f2
theorem impl_texts_l0 (xs : List PS) (hl : xs.length ≤ 1048576) : ∀ (d i k : Nat) (acc : List ByteArray), i + d = xs.length → acc.length = i → d < k →
    impl_keyTexts.l0 k acc xs (xs.length : Int) (i : Int) = some (acc ++ (xs.drop i).map txt)
  | 0, i, k, acc, hi, ha, hk => by
    obtain ⟨k, rfl⟩ : ∃ m, k = m + 1 := ⟨k - 1, by omega⟩
    simp only [impl_keyTexts.l0]
    rw [if_neg (by omega), List.drop_of_length_le (by omega), List.map_nil, List.append_nil]
  | d + 1, i, k, acc, hi, ha, hk => by
    obtain ⟨k, rfl⟩ : ∃ m, k = m + 1 := ⟨k - 1, by omega⟩
    have h1 : i < xs.length := by omega
    simp only [impl_keyTexts.l0, impl_PointText_eq, Option.bind_some]
    rw [if_pos (by omega), if_pos (by omega), if_pos (by omega), if_pos (by omega), wrap_in (i := (i : Int) + 1) (by omega) (by omega), rdB xs i h1, show (i : Int) + 1 = ((i + 1 : Nat) : Int) by omega, impl_texts_l0 xs hl d (i + 1) k _ (by omega) (by simp; omega) (by omega), List.drop_eq_getElem_cons h1, List.map_cons, List.append_assoc]
    rfl
theorem spec_texts_l0 (xs : List PS) (hl : xs.length ≤ 1048576) : ∀ (d i k : Nat) (acc : List ByteArray), i + d = xs.length → acc.length = i → (∀ y ∈ acc, y.size ≤ 3) → d + 500 ≤ k →
    spec_CommitteeRoot.l0 k acc (i : Int) xs = some (Tree.root (acc ++ (xs.drop i).map txt))
  | 0, i, k, acc, hi, ha, hs, hk => by
    obtain ⟨k, rfl⟩ : ∃ m, k = m + 1 := ⟨k - 1, by omega⟩
    rw [spec_CommitteeRoot.l0, if_neg (by omega), List.drop_of_length_le (by omega), List.map_nil, List.append_nil, spec_root k (by omega) acc (fun y hy => by have := hs y hy; omega), Option.bind_some]
  | d + 1, i, k, acc, hi, ha, hs, hk => by
    obtain ⟨k, rfl⟩ : ∃ m, k = m + 1 := ⟨k - 1, by omega⟩
    have h1 : i < xs.length := by omega
    rw [spec_CommitteeRoot.l0, if_pos (by omega), if_pos (by omega), spec_PointText_eq, Option.bind_some, if_pos (by omega), wrap_in (i := (i : Int) + 1) (by omega) (by omega), rdB xs i h1, show (i : Int) + 1 = ((i + 1 : Nat) : Int) by omega,
      spec_texts_l0 xs hl d (i + 1) k _ (by omega) (by simp; omega) (fun y hy => by
        rcases List.mem_append.1 hy with hy | hy
        · exact hs y hy
        · rw [List.mem_singleton.1 hy]; exact ptxt_size _ _ _) (by omega), List.drop_eq_getElem_cons h1, List.map_cons, List.append_assoc]
    rfl
def croot (ys : List PS) : ByteArray := if okC ys = true then Tree.root (ys.map txt) else ⟨#[]⟩
theorem txts_small (ys : List PS) : ∀ y ∈ ys.map txt, y.size ≤ 1048576 := by
  intro y hy
  obtain ⟨p, _, rfl⟩ := List.mem_map.1 hy
  have := ptxt_size p.f0 p.f1 p.f2
  show (ptxt p.f0 p.f1 p.f2).size ≤ 1048576
  omega
theorem impl_croot (ys : List PS) (hl : ys.length ≤ 1048576) (k : Nat) (hk : ys.length + 600 ≤ k) : impl_CommitteeRoot.f k ys = some (croot ys) := by
  unfold impl_CommitteeRoot.f croot
  rw [impl_CommitteeOk_eq ys hl k (by omega), Option.bind_some]
  by_cases c : okC ys = true
  · have h := impl_texts_l0 ys hl ys.length 0 k [] (by omega) rfl (by omega)
    have h2 : impl_keyTexts.f k ys = some (ys.map txt) := h
    rw [if_pos c, if_pos c, h2, Option.bind_some, impl_root k (by omega) _ (txts_small ys), Option.bind_some]
  · rw [if_neg c, if_neg c]
theorem spec_croot (ys : List PS) (hl : ys.length ≤ 1048576) (k : Nat) (hk : ys.length + 600 ≤ k) : spec_CommitteeRoot.f k ys = some (croot ys) := by
  unfold spec_CommitteeRoot.f croot
  rw [spec_CommitteeOk_eq ys hl k (by omega), Option.bind_some]
  by_cases c : okC ys = true
  · have h := spec_texts_l0 ys hl ys.length 0 k [] (by omega) rfl (fun y hy => by cases hy) (by omega)
    rw [if_pos c, if_pos c]
    exact h
  · rw [if_neg c, if_neg c]
theorem croot_size {ys : List PS} (h : okC ys = true) : (croot ys).size = 32 := by
  unfold croot
  rw [if_pos h]
  have h8 : ys.length = 8 := by
    unfold okC at h
    rw [Bool.and_eq_true, beq_iff_eq] at h
    omega
  exact root_size (by rw [List.length_map]; omega)
end Go.Proofs.YtkdmplfldfagnaaDoor.Sgn
end
section
/- What is proved here: the program's CommitteeRoot and the reference's answer the same for every committee, and the committee stays as it was. No conditions. -/
set_option linter.unusedVariables false
set_option linter.unusedSimpArgs false
namespace Go.Proofs.YtkdmplfldfagnaaDoor.Pure
open Go.RowKit Go.Proofs.YtkdmplfldfagnaaDoor.Pf Go.Proofs.YtkdmplfldfagnaaDoorW.PrintWords Go.Proofs.YtkdmplfldfagnaaDoor.Crv Go.Proofs.YtkdmplfldfagnaaDoor.Link Go.Proofs.YtkdmplfldfagnaaDoor.Pts Go.Proofs.YtkdmplfldfagnaaDoor.Sgn
open Go.Proofs.YtkdmplfldfagnaaDoor.Comm (PS)
set_option maxRecDepth 4000
theorem szC_f (xs : List S42) (hn : xs.length ≤ 9223372036854775807) :
    (∃ z, z < 0 ∧ laws_szCommittee.f xs 1048576 = some z) ∨ (xs.length ≤ 1048576 ∧ ∃ z, ¬ z < 0 ∧ laws_szCommittee.f xs 1048576 = some z) := by
  unfold laws_szCommittee.f
  rcases szPointS_f xs 1048576 (by decide) (by decide) hn with h | ⟨h1, h⟩
  · left; rw [h]; exact ⟨-1, by decide, by simp⟩
  · right; refine ⟨by omega, 1048576 - (xs.length : Int), by omega, ?_⟩
    rw [h]; simp only [Option.bind_some]; rw [if_neg (by omega)]
theorem toC_f (xs : List S42) (hl : xs.length ≤ 1048576) (k : Nat) (hk : xs.length < k) : laws_toCommittee.f k xs = some (xs.map conv) := by
  simp only [laws_toCommittee.f, toPointS_f xs hl k hk, Option.bind_some]
theorem eqC_same (xs : List PS) (hl : xs.length ≤ 1048576) (k : Nat) (hk : xs.length < k) : laws_eqCommittee.f k xs xs = some true := by
  simp only [laws_eqCommittee.f, eqPointS_same xs hl k hk, Option.bind_some, if_true]

theorem FnExactCommitteeRoot : laws_FnExactCommitteeRoot.Pure := by
  rintro xs ⟨hl, _⟩
  rcases szC_f xs hl with ⟨z, hz, h⟩ | ⟨h1, z, hz, h⟩
  · exact ⟨0, by simp only [laws_FnExactCommitteeRoot.f, h, Option.bind_some]; rw [if_pos hz]⟩
  have h2 : (xs.map conv).length ≤ 1048576 := by rw [List.length_map]; omega
  have h3 : (xs.map conv).length = xs.length := List.length_map ..
  generalize hys : xs.map conv = ys at *
  obtain ⟨k, hk⟩ : ∃ k, k = xs.length + 1000 := ⟨_, rfl⟩
  refine ⟨k, ?_⟩
  have t := toC_f xs h1 k (by omega)
  rw [hys] at t
  have f := eqC_same ys h2 k (by omega)
  simp only [laws_FnExactCommitteeRoot.f, h, t, spec_croot ys h2 k (by omega), impl_croot ys h2 k (by omega), f, Option.bind_some, if_true]
  rw [if_neg hz]
end Go.Proofs.YtkdmplfldfagnaaDoor.Pure
end
section
/- What is proved here: a value of a Go type that reads as data opens into the print's own kinds (Kd), for whole numbers, bools, strings, slices and structs. No conditions. -/
set_option linter.unusedVariables false
set_option linter.unusedSimpArgs false
namespace Go.Proofs.YtkdmplfldfagnaaDoor.Open
open Go.RowKit Go.Proofs.YtkdmplfldfagnaaDoorW.PrintWords Go.ChangeShapes Go.WideShapes

def Opens (P : Program) (t : TypeId) {α : Type} (d : Kd α) (g : α → Prop) : Prop :=
  ∀ {H : Type} (enc : TypeId × Value → H) (w : World) (base : Nat) (spare : Nat → Bool) (held : Bool) (fuel : Nat) (cs : List Value) (x : DataW H × List MemPlace),
    DataW.trod enc P w base spare held fuel t cs = some x → ∃ a, d.K w a cs ∧ g a

theorem list_of {α : Type} {p : Nat → α → Prop} : ∀ n, (∀ i, i < n → ∃ y, p i y) → ∃ ys : List α, ys.length = n ∧ ∀ i y, ys[i]? = some y → p i y
  | 0, _ => ⟨[], rfl, fun i y h => by simp at h⟩
  | n + 1, h => by
    obtain ⟨ys, hl, hy⟩ := list_of n (fun i hi => h i (by omega))
    obtain ⟨y, hy'⟩ := h n (by omega)
    refine ⟨ys ++ [y], by simp [hl], fun i z hz => ?_⟩
    rcases Nat.lt_or_ge i n with hi | hi
    · rw [List.getElem?_append_left (by omega)] at hz
      exact hy i z hz
    · have h1 := (List.getElem?_eq_some_iff.1 hz).1
      rw [List.length_append, List.length_singleton] at h1
      have h2 : i = n := by omega
      subst h2
      rw [List.getElem?_append_right (by omega), hl, Nat.sub_self] at hz
      simp at hz
      subst hz
      exact hy'

section
variable {P : Program} {t : TypeId}
theorem opens_int {k : IntKind} (h : P.underlying t = some (.int k)) : Opens P t (Kd.int k) (fun n => (Lit.int k n).wf = true) := by
  intro H enc w base spare held fuel cs x hx
  obtain ⟨n, rfl, _, hw⟩ := DataW.trod_int h hx
  exact ⟨n, rfl, hw⟩
theorem opens_bool (h : P.underlying t = some .bool) : Opens P t Kd.bool (fun _ => True) := by
  intro H enc w base spare held fuel cs x hx
  obtain ⟨b, hb⟩ : ∃ b, cs = [.bool b] := by
    cases fuel with
    | zero => simp [DataW.trod] at hx
    | succ n =>
      unfold DataW.trod at hx
      rw [h] at hx
      split at hx <;> simp_all
  exact ⟨b, hb, trivial⟩
theorem opens_string (h : P.underlying t = some .string) : Opens P t Kd.string (fun s => s.size ≤ maxLen) := by
  intro H enc w base spare held fuel cs x hx
  obtain ⟨n, rfl, _, hw⟩ := DataW.trod_string h hx
  exact ⟨n, rfl, hw⟩
theorem opens_slice {e : TypeId} {α : Type} {d : Kd α} {g : α → Prop} (ht : P.underlying t = some (.slice e)) (hc : P.cellsOf e = d.sz) (he : Opens P e d g) :
    Opens P t (Kd.slice e d) (fun xs => xs.length ≤ 9223372036854775807 ∧ ∀ x ∈ xs, g x) := by
  intro H enc w base spare held fuel cs x h
  rcases Go.Deep.open_slice ht h with ⟨rfl, _⟩ | ⟨a, len, cap, m, n, D, Pl, rfl, hb, hl, hm, hmm, _, hx⟩
  · exact ⟨[], ⟨none, 0, rfl, Nat.le_refl _, Kd.C_nil d w⟩, by simp, fun x hx => by cases hx⟩
  · have hlm : len ≤ m := by rw [hmm]; split <;> omega
    obtain ⟨ys, hy1, hy2⟩ := list_of (p := fun i y => ∃ c, w.cells? base (a.add (i * P.cellsOf e)) (P.cellsOf e) = some c ∧ d.K w y c ∧ g y) len (fun i hi => by
      obtain ⟨c, h1, h2⟩ := hx i (by omega)
      obtain ⟨y, h3, h4⟩ := he _ _ _ _ _ _ _ _ h2
      exact ⟨y, c, h1, h3, h4⟩)
    unfold maxLen at hm
    refine ⟨ys, ⟨some a, cap, by rw [hy1], by omega, rfl, by omega, fun _ => ⟨a, rfl, fun j p hp => ?_⟩⟩, by omega, fun y hy => ?_⟩
    · obtain ⟨c, h1, h2, h3⟩ := hy2 j p hp
      obtain ⟨_, hlen, hcell⟩ := World.cells?_some h1
      refine ⟨c, by rw [hlen, hc], h2, fun i u hu => ?_⟩
      have hi := (List.getElem?_eq_some_iff.1 hu).1
      have := hcell i (by omega)
      rw [Go.Deep.add_add, hc] at this
      rw [this, hu]
    · obtain ⟨i, hi⟩ := List.mem_iff_getElem?.1 hy
      obtain ⟨c, h1, h2, h3⟩ := hy2 i y hi
      exact h3
theorem opens_iso {α β : Type} {d : Kd α} {g : α → Prop} (f : β → α) (mk : α → β) (hf : ∀ a, f (mk a) = a) (h : Opens P t d g) : Opens P t (Kd.iso d f) (fun x => g (f x)) := by
  intro H enc w base spare held fuel cs x hx
  obtain ⟨a, h1, h2⟩ := h enc w base spare held fuel cs x hx
  exact ⟨mk a, by show d.K w (f (mk a)) cs; rw [hf]; exact h1, by show g (f (mk a)); rw [hf]; exact h2⟩
theorem struct_field {fs : Array Field} {H : Type} {enc : TypeId × Value → H} {w : World} {base : Nat} {spare : Nat → Bool} {held : Bool} {n : Nat} {cs : List Value} {xs : List (DataW H × List MemPlace)} (hl : xs.length = fs.size)
    (hf : ∀ (i : Nat) (f : Field), fs[i]? = some f → DataW.trod enc P w base spare held n f.type ((cs.drop f.offset).take (P.cellsOf f.type)) = xs[i]?) {i : Nat} {f : Field} (hi : fs[i]? = some f) {α : Type} {d : Kd α} {g : α → Prop} (ho : Opens P f.type d g) :
    ∃ a, d.K w a ((cs.drop f.offset).take (P.cellsOf f.type)) ∧ g a := by
  have h1 := hf i f hi
  have h2 : i < xs.length := by rw [hl]; exact (Array.getElem?_eq_some_iff.1 hi).1
  rw [List.getElem?_eq_getElem h2] at h1
  exact ho _ _ _ _ _ _ _ _ h1
theorem opens_struct1 {f0 : Field} {α : Type} {d0 : Kd α} {g0 : α → Prop} (ht : P.underlying t = some (.struct #[f0])) (h0 : Opens P f0.type d0 g0)
    (s0 : P.cellsOf f0.type = d0.sz) (o0 : f0.offset = 0) (st : P.cellsOf t = d0.sz) : Opens P t d0 g0 := by
  intro H enc w base spare held fuel cs x hx
  obtain ⟨xs, n, _, _, hlen, hl, hf⟩ := DataW.trod_struct ht hx
  obtain ⟨a, ha, hg⟩ := struct_field hl hf (i := 0) (f := f0) rfl h0
  rw [o0, s0, List.drop_zero, List.take_of_length_le (by omega)] at ha
  exact ⟨a, ha, hg⟩
theorem opens_struct2 {f0 f1 : Field} {α β : Type} {d0 : Kd α} {d1 : Kd β} {g0 : α → Prop} {g1 : β → Prop} (ht : P.underlying t = some (.struct #[f0, f1])) (h0 : Opens P f0.type d0 g0) (h1 : Opens P f1.type d1 g1)
    (s0 : P.cellsOf f0.type = d0.sz) (s1 : P.cellsOf f1.type = d1.sz) (o0 : f0.offset = 0) (o1 : f1.offset = d0.sz) (st : P.cellsOf t = d0.sz + d1.sz) : Opens P t (Kd.pair d0 d1) (fun x => g0 x.1 ∧ g1 x.2) := by
  intro H enc w base spare held fuel cs x hx
  obtain ⟨xs, n, _, _, hlen, hl, hf⟩ := DataW.trod_struct ht hx
  obtain ⟨a, ha, ga⟩ := struct_field hl hf (i := 0) (f := f0) rfl h0
  obtain ⟨b, hb, gb⟩ := struct_field hl hf (i := 1) (f := f1) rfl h1
  rw [o0, s0, List.drop_zero] at ha
  rw [o1, s1, List.take_of_length_le (by rw [List.length_drop]; omega)] at hb
  exact ⟨(a, b), ⟨_, _, (List.take_append_drop d0.sz cs).symm, ha, hb⟩, ga, gb⟩
theorem opens_struct3 {f0 f1 f2 : Field} {α β γ : Type} {d0 : Kd α} {d1 : Kd β} {d2 : Kd γ} {g0 : α → Prop} {g1 : β → Prop} {g2 : γ → Prop} (ht : P.underlying t = some (.struct #[f0, f1, f2])) (h0 : Opens P f0.type d0 g0) (h1 : Opens P f1.type d1 g1) (h2 : Opens P f2.type d2 g2)
    (s0 : P.cellsOf f0.type = d0.sz) (s1 : P.cellsOf f1.type = d1.sz) (s2 : P.cellsOf f2.type = d2.sz) (o0 : f0.offset = 0) (o1 : f1.offset = d0.sz) (o2 : f2.offset = d0.sz + d1.sz) (st : P.cellsOf t = d0.sz + d1.sz + d2.sz) :
    Opens P t (Kd.pair d0 (Kd.pair d1 d2)) (fun x => g0 x.1 ∧ g1 x.2.1 ∧ g2 x.2.2) := by
  intro H enc w base spare held fuel cs x hx
  obtain ⟨xs, n, _, _, hlen, hl, hf⟩ := DataW.trod_struct ht hx
  obtain ⟨a, ha, ga⟩ := struct_field hl hf (i := 0) (f := f0) rfl h0
  obtain ⟨b, hb, gb⟩ := struct_field hl hf (i := 1) (f := f1) rfl h1
  obtain ⟨c, hc, gc⟩ := struct_field hl hf (i := 2) (f := f2) rfl h2
  rw [o0, s0, List.drop_zero] at ha
  rw [o1, s1] at hb
  rw [o2, s2, List.take_of_length_le (by rw [List.length_drop]; omega)] at hc
  refine ⟨(a, b, c), ⟨_, _, (List.take_append_drop d0.sz cs).symm, ha, _, _, (List.take_append_drop d1.sz _).symm, hb, ?_⟩, ga, gb, gc⟩
  rw [List.drop_drop]
  exact hc
theorem opens_struct4 {f0 f1 f2 f3 : Field} {α β γ δ : Type} {d0 : Kd α} {d1 : Kd β} {d2 : Kd γ} {d3 : Kd δ} {g0 : α → Prop} {g1 : β → Prop} {g2 : γ → Prop} {g3 : δ → Prop} (ht : P.underlying t = some (.struct #[f0, f1, f2, f3]))
    (h0 : Opens P f0.type d0 g0) (h1 : Opens P f1.type d1 g1) (h2 : Opens P f2.type d2 g2) (h3 : Opens P f3.type d3 g3)
    (s0 : P.cellsOf f0.type = d0.sz) (s1 : P.cellsOf f1.type = d1.sz) (s2 : P.cellsOf f2.type = d2.sz) (s3 : P.cellsOf f3.type = d3.sz) (o0 : f0.offset = 0) (o1 : f1.offset = d0.sz) (o2 : f2.offset = d0.sz + d1.sz) (o3 : f3.offset = d0.sz + d1.sz + d2.sz)
    (st : P.cellsOf t = d0.sz + d1.sz + d2.sz + d3.sz) :
    Opens P t (Kd.pair d0 (Kd.pair d1 (Kd.pair d2 d3))) (fun x => g0 x.1 ∧ g1 x.2.1 ∧ g2 x.2.2.1 ∧ g3 x.2.2.2) := by
  intro H enc w base spare held fuel cs x hx
  obtain ⟨xs, n, _, _, hlen, hl, hf⟩ := DataW.trod_struct ht hx
  obtain ⟨a, ha, ga⟩ := struct_field hl hf (i := 0) (f := f0) rfl h0
  obtain ⟨b, hb, gb⟩ := struct_field hl hf (i := 1) (f := f1) rfl h1
  obtain ⟨c, hc, gc⟩ := struct_field hl hf (i := 2) (f := f2) rfl h2
  obtain ⟨d, hd, gd⟩ := struct_field hl hf (i := 3) (f := f3) rfl h3
  rw [o0, s0, List.drop_zero] at ha
  rw [o1, s1] at hb
  rw [o2, s2] at hc
  rw [o3, s3, List.take_of_length_le (by rw [List.length_drop]; omega)] at hd
  refine ⟨(a, b, c, d), ⟨_, _, (List.take_append_drop d0.sz cs).symm, ha, _, _, (List.take_append_drop d1.sz _).symm, hb, _, _, (List.take_append_drop d2.sz _).symm, ?_, ?_⟩, ga, gb, gc, gd⟩
  · rw [List.drop_drop]
    exact hc
  · rw [List.drop_drop, List.drop_drop, ← Nat.add_assoc]
    exact hd
end
end Go.Proofs.YtkdmplfldfagnaaDoor.Open
end
section
/- What is proved here: the listed tables, as the row's condition lays them, stand in memory; the door's own heap meets the condition. No conditions but those that each theorem names. -/
namespace Go.Proofs.YtkdmplfldfagnaaDoor.Laid
open Go.ChangeShapes Go.WideShapes Go.ChangeAt Go.RowKit
set_option maxRecDepth 100000
theorem arr_cells {P : Program} {H : Type} {enc : TypeId × Value → H} {w : World} {spare : Nat → Bool} {held : Bool} {fuel : Nat} {t e : TypeId} {n : Nat} {k : IntKind} {cs : List Value} {L : List Int} {p : List MemPlace}
    (ht : P.underlying t = some (.array n e)) (he : P.underlying e = some (.int k)) (c1 : P.cellsOf e = 1)
    (hd : DataW.trod enc P w 0 spare held fuel t cs = some (.agg (L.map fun z => .lit (.int k z)), p)) :
    ∀ i : Nat, i < n → cs[i]? = some (.int k (Kp.ga L i)) := by
  intro i hi
  obtain ⟨xs, m, rfl, hx, hlen, hn, hel⟩ := DataW.trod_array ht hd
  have h1 := hel i hi
  rw [c1, Nat.mul_one] at h1
  have hi' : i < xs.length := hn.symm ▸ hi
  rw [List.getElem?_eq_getElem hi'] at h1
  obtain ⟨z, hz, hz2, _⟩ := DataW.trod_int he h1
  simp only [Prod.mk.injEq, DataW.agg.injEq] at hx
  have hL : (L.map fun z => (DataW.lit (.int k z) : DataW H))[i]? = (xs.map (·.1))[i]? := by rw [hx.1]
  rw [List.getElem?_map, List.getElem?_map, List.getElem?_eq_getElem hi', hz2] at hL
  have hLz : Kp.ga L i = z := by
    unfold Kp.ga
    rw [List.getD_eq_getElem?_getD]
    cases hq : L[i]? with
    | none => rw [hq] at hL; simp at hL
    | some y => rw [hq] at hL; simpa using hL
  rw [hLz]
  have h2 : ((cs.drop i).take 1)[0]? = some (.int k z) := by rw [hz]; rfl
  simpa using h2
theorem gR : Tryd.prog.globalNamed "loop.example/g00321/impl.roundConstants" = some 1 := by kernel_rfl
theorem gT : Tryd.prog.globalNamed "loop.example/g00321/impl.turns" = some 0 := by kernel_rfl
theorem tR : (Tryd.prog.globals[1]?).map (·.type) = some 113 := by kernel_rfl
theorem tT : (Tryd.prog.globals[0]?).map (·.type) = some 137 := by kernel_rfl
abbrev laidL : List (String × DataW Unit) := [("loop.example/g00321/impl.roundConstants", Rows.laid_loop_example_g00321_impl_roundConstants), ("loop.example/g00321/impl.turns", Rows.laid_loop_example_g00321_impl_turns)]
theorem cell_lt {W : World} {g i : Nat} {v : Value} (h : W.cell? ⟨g, i, none⟩ = some v) : g < W.heap.size := by
  unfold World.cell? at h
  by_cases hg : g < W.heap.size
  · exact hg
  · simp [hg] at h
theorem tab {W : World} (h : laidMetH Tryd.prog laidL W) : Kp.Tab W := by
  rw [MakeChecks.laidMetH_plain _ _ _ (by kernel_rfl)] at h
  obtain ⟨ps, ⟨g0, t0, cs0, f0, p0, q0, hg0, ht0, hv0, hd0, ⟨g1, t1, cs1, f1, p1, q1, hg1, ht1, hv1, hd1, _, _⟩, _⟩, _, _⟩ := h
  obtain rfl := Option.some.inj (gR.symm.trans hg0)
  obtain rfl := Option.some.inj (gT.symm.trans hg1)
  obtain rfl := Option.some.inj (tR.symm.trans ht0)
  obtain rfl := Option.some.inj (tT.symm.trans ht1)
  have r : ∀ i : Nat, i < 24 → W.cell? ⟨1, i, none⟩ = some (.int .u64 (Kp.ga Kp.rcL i)) := fun i hi => by
    rw [World.var?_cell hg0 hv0 i, ← Array.getElem?_toList]
    exact arr_cells (L := Kp.rcL) Tryd.underlying113 Tryd.underlying91 (by kernel_rfl) hd0 i hi
  have t : ∀ i : Nat, i < 25 → W.cell? ⟨0, i, none⟩ = some (.int .i64 (Kp.ga Kp.turnsL i)) := fun i hi => by
    rw [World.var?_cell hg1 hv1 i, ← Array.getElem?_toList]
    exact arr_cells (L := Kp.turnsL) Tryd.underlying137 Tryd.underlying3 (by kernel_rfl) hd1 i hi
  exact ⟨t, r, cell_lt (t 0 (by decide)), cell_lt (r 0 (by decide))⟩
/-- The door's own heap meets the condition. -/
theorem door_met (os : Os) (args : Array Value) : laidMetH Tryd.prog laidL ((World.doorLaid Tryd.prog 400 os).forCall (fun _ _ => 0) ⟨#[], args, []⟩).memory :=
  laidMetH_of_parts3 (fuel := 8) (laidMet_of_run' 8 (by kernel_rfl) (by kernel_rfl)) (by kernel_rfl) (by kernel_rfl)
#print axioms door_met
#print axioms tab
end Go.Proofs.YtkdmplfldfagnaaDoor.Laid
end
section
namespace Go.Proofs.YtkdmplfldfagnaaDoor.fnExactCommitteeRoot
open Go.ChangeShapes Go.WideShapes Go.ChangeAt Go.RowKit Go.Proofs.YtkdmplfldfagnaaDoorW.PrintWords Go.Proofs.YtkdmplfldfagnaaDoor.Open Go.Proofs.YtkdmplfldfagnaaDoor.Pf
open Go.ChangeMaps (open_string shut_string)
set_option linter.unusedVariables false
set_option linter.unusedSimpArgs false
theorem own : ownKnob Tryd.prog.godebug = none := by kernel_rfl
theorem laidOut : laidOutB Tryd.prog = true := by kernel_rfl
set_option maxRecDepth 100000 in
theorem lifted (os : Os) (started : os.Started) (H : Type) (enc : TypeId × Value → H) :
  ReturnsInHanded {} Tryd.checked os 6 .any (fun w args => (Rows.fnExactCommitteeRootSpec.pre enc Tryd.prog Tryd.f6 [] false w args ∧ laidMetH Tryd.prog Laid.laidL w) ∧ sizedMet enc Tryd.prog Tryd.f6 (OpenSpec.ofChange Rows.fnExactCommitteeRootSpec) false w args)
   (Rows.fnExactCommitteeRootSpec.post enc Tryd.prog Tryd.f6 false true false false) := by
 refine returnsInHanded_of_change_and (C := Tryd.checked) (X := fun w _ => laidMetH Tryd.prog Laid.laidL w) (fun _ _ _ hh h => h.of_heap hh) own started (by kernel_rfl) Tryd.func6
  (ChangeSpec.witness_shaped (enc := enc) (C := Tryd.checked) (os := os) (X := fun w _ => laidMetH Tryd.prog Laid.laidL w) false (World.doorLaid Tryd.prog 400 os) #[.agg #[.slice none 0 0]] 8 rfl (World.shaped_of_RefB (by kernel_rfl) (by kernel_rfl)) (by kernel_rfl) (by kernel_rfl) (by kernel_rfl) (Laid.door_met os _)) ?_
 intro W base args ds gs before hval0 hW hcnd hsz0 hL _
 have hT := Laid.tab hL
 have hsz : (DataW.weightsEach Tryd.prog (Tryd.f6.params.toList ++ Rows.fnExactCommitteeRootSpec.plain.varTypes Tryd.prog) (ds ++ gs)).all (· ≤ reachBytes) = true := hsz0
 have hval : ∀ (j : Nat) t v, Tryd.f6.params[j]? = some t → args[j]? = some v → Value.okWide Tryd.prog W .any base t v := hval0
 have hW' := hW
 obtain ⟨p, q, hA0, hV, rfl, hfz, hnd⟩ := hW
 have hA : DataW.TrodAll enc Tryd.prog W 0 (fun _ => true) true Tryd.f6.params.toList args.toList ds p := hA0
 rw [Tryd.params6] at hA hval hsz
 obtain ⟨v0, vs0, d0, ds0, p0, q0, hargs, rfl, rfl, h0, r0⟩ := trodAll_cons hA
 obtain ⟨rfl, rfl, rfl⟩ := trodAll_nil r0
 obtain rfl : args = #[v0] := by cases args; simp_all
 have hV2 : DataW.TrodVars enc Tryd.prog W (fun _ => true) ["loop.example/g00321/impl.turns", "loop.example/g00321/impl.roundConstants"] gs q := hV
 obtain ⟨_, _, _, _, dv0, _, _, _, _, _, dv1, _, rfl, _⟩ := trodVars_two hV2
 obtain ⟨cs0, rfl, hz0⟩ := okWide_struct Tryd.underlying33 (hval 0 33 v0 rfl rfl)
 have k0 := h0
 have lt0 : ∀ x ∈ p0, x.block < W.heap.size := by obtain ⟨m, hm⟩ := k0; exact DataW.trod_lt m _ _ _ hm
 obtain ⟨x0, hK0, g0⟩ := (show ∃ a, (Kd.slice 42 k42).K W a cs0.toList ∧ _ from h0.elim fun fuel hf => (opens_struct1 Tryd.underlying33 (opens_slice Tryd.underlying31 (by kernel_rfl) (opens_iso (fun x : S42 => (x.f0, x.f1, x.f2)) (fun p => ⟨p.1, p.2.1, p.2.2⟩) (fun _ => rfl) (opens_struct3 Tryd.underlying42 (opens_int Tryd.underlying3) (opens_int Tryd.underlying3) (opens_bool Tryd.underlying4) (by kernel_rfl) (by kernel_rfl) (by kernel_rfl) (by kernel_rfl) (by kernel_rfl) (by kernel_rfl) (by kernel_rfl)))) (by kernel_rfl) (by kernel_rfl) (by kernel_rfl)) enc W 0 (fun _ => true) true fuel cs0.toList _ hf)
 obtain ⟨l0_0, rfl⟩ : ∃ y, y = x0 := ⟨_, rfl⟩
 have g0_0 := g0
 obtain ⟨A0_0, c0_0, E0, hc0_0, hr0_0⟩ := hK0
 obtain rfl : cs0 = #[.slice A0_0 l0_0.length c0_0] := Array.toList_inj.1 E0
 clear hA0 hval0 hsz0 hsz
 obtain ⟨k, h⟩ := Pure.FnExactCommitteeRoot l0_0 g0_0
 refine (laws_FnExactCommitteeRoot.calls k _ _ l0_0 true W hr0_0 hc0_0 hT ⟨rfl⟩ h).mono fun e W' ⟨he, bel0⟩ => ?_
 have bel : Below W.heap.size W W' := bel0
 subst he
 exact ⟨_, rfl, _, _, _, [], _, _, hW', trodAll_mk1 (shut_bool Tryd.underlying4 _), (trodAll_cons_mk (Below.trod laidOut (by kernel_rfl) (of_decide_eq_true (by kernel_rfl)) k0 bel lt0) trodAll_mk0), Below.trodVars laidOut bel (by kernel_rfl) hV2, bel.frame _, fun h => by cases h⟩
theorem over : Rows.fnExactCommitteeRootRow.holds Tryd.pinned (OpenSpec.ofChange Rows.fnExactCommitteeRootSpec) :=
 OpenClaim.holds_of_wide 6 Tryd.f6 rfl rfl rfl rfl rfl rfl rfl ⟨rfl, rfl, rfl, rfl, rfl⟩ rfl rfl rfl rfl rfl (by kernel_rfl) Tryd.func6 (by kernel_rfl)
  (of_decide_eq_true (by kernel_rfl)) (by unfold Func.isWrapper; first | (rw [if_pos (by decide +kernel)]; kernel_rfl) | (rw [if_neg (by decide +kernel)]; exact ⟨rfl, rfl⟩))
  (fun os started H enc _ => lifted os started H enc)
theorem proved : Rows.FnExactCommitteeRootSaid := over
theorem card : Rows.FnExactCommitteeRootCardSaid :=
 Claim7.holds_tied_plain_at .later [] [.data, .data] true (true, "78db0a5578644ad6e4d7857560735192eebfd685c977ce1785b74e22dff30b79") false
  over (fun _ h => by cases h) (by kernel_rfl) (fun _ h => by cases h) fnExactCommitteeRoot_row_tie rfl ⟨rfl, rfl⟩ (by kernel_rfl) rfl
  (fun f fn hf hfn => by
   obtain rfl : f = 6 := Option.some.inj ((show Tryd.prog.funcNamed "loop.example/g00321/laws.FnExactCommitteeRoot" = some 6 by kernel_rfl).symm.trans hf) |>.symm
   obtain rfl : fn = Tryd.f6 := (Option.some.inj (Tryd.func6.symm.trans hfn)).symm
   exact ⟨by kernel_rfl, fun j t ht => by
    rw [Tryd.params6] at ht
    have hm : t ∈ [33] := by simpa using Array.mem_of_getElem? ht
    have hall : ([33].all fun u => !Tryd.prog.wantsStandIn u) = true := by kernel_rfl
    exact (show Tryd.prog.wantsStandIn t = false by simpa using List.all_eq_true.1 hall t hm)⟩)
  (by kernel_rfl)
#print axioms card
end Go.Proofs.YtkdmplfldfagnaaDoor.fnExactCommitteeRoot
namespace Go.Proofs.YtkdmplfldfagnaaDoor
/-- The row, under a short name, for the claim. -/
theorem fnExactCommitteeRoot_holds : Rows.FnExactCommitteeRootCardSaid := fnExactCommitteeRoot.card
end Go.Proofs.YtkdmplfldfagnaaDoor
end
