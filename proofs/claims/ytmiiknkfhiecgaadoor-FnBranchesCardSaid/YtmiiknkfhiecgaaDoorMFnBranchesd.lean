/- What is proved here: part 4 of 4 of the proof of the given statement FnBranches: the contracts of the Go functions that it reaches, the plain facts on lists and numbers, and (in the last part) the statement itself. No conditions beyond the given ones. -/
import Derived.Test.YtmiiknkfhiecgaaDoorMFnBrancheswSlim
import Derived.Test.YtmiiknkfhiecgaaDoorMFnBranchesa
import Derived.Test.YtmiiknkfhiecgaaDoorMFnBranchesc
import Derived.Test.YtmiiknkfhiecgaaDoorMFnBranchesb
import Derived.Test.YtmiiknkfhiecgaaDoorMFnBrancheswMore
import Derived.Deep.Slices
import Derived.ChangeArms
import Derived.DataReads
import Derived.ChangeShapes
import Derived.Test.YtmiiknkfhiecgaaDoorRows
import Derived.ProofKit
import Derived.LaidMore
import Derived.OpenShut
import Derived.Stop.Joined
import Derived.Test.YtmiiknkfhiecgaaDoorTie
import Derived.Test.YtmiiknkfhiecgaaDoorCards
import Derived.WalkKit
import Derived.ShutString
import Derived.ChangeOld
import Derived.Below
import Derived.SizedLaws
import Derived.OpenVars
import Derived.SevenTiedAt

section
namespace Go.Proofs.YtmiiknkfhiecgaaDoor.Pf
open Go.RowKit Go.Proofs.YtmiiknkfhiecgaaDoorW.PrintWords Go.Proofs.YtmiiknkfhiecgaaDoorW.PrintLast Go.Proofs.YtmiiknkfhiecgaaDoorW.PrintMore
attribute [local go_sem] max2_int min2_int max_two min_two max_three min_three max_four min_four   -- for this text's walks alone
set_option linter.unusedVariables false
set_option linter.unusedSimpArgs false
/-! ### spec_DrawFoldBranch: function 34 -/
def spec_DrawFoldBranch.j0 : Nat → Int → List ByteArray → ByteArray → List Int → Int → Int → Option (ByteArray × Int × List ByteArray)
 | 0, _, _, _, _, _, _ => none
 | k + 1, x7, x8, x9, x486000, x486001, x486002 => (spec_l01Below.f x486000 x486001 x486002 6).bind fun bt498 => (if bt498.1 = 0 then ((spec_l01Place.f x486000 bt498.2.1 bt498.2.2 31).bind fun bt501 => (some (x9, bt501.1, x8))) else (if bt498.1 = 1 then ((some (([(⟨#[120]⟩ : ByteArray), (⟨#[121]⟩ : ByteArray), (⟨#[122]⟩ : ByteArray)] : List ByteArray) : List ByteArray)).bind fun y504 => (if x8.length + y504.length < 8796093022208 then (some (x9, x7, (x8 ++ y504))) else (none))) else (some (x9, x7, x8))))
def spec_DrawFoldBranch.f (k : Nat) (l0 : List Int) : Option (ByteArray × Int × List ByteArray) := (spec_l01New.f k l0).bind fun bt482 => ((spec_l10Leaves.f k bt482.1 bt482.2.1 bt482.2.2).bind fun bt486 => ((spec_l01Below.f bt482.1 bt486.2.1 bt486.2.2 9).bind fun bt491 => ((spec_BranchOf.f k bt486.1 bt491.1).bind fun t494 => (if bt491.1 < (bt486.1.length : Int) then (if 0 ≤ bt491.1 then (spec_DrawFoldBranch.j0 k bt491.1 t494 (rdOf ByteArray.empty bt486.1 bt491.1) bt482.1 bt491.2.1 bt491.2.2) else (none)) else (spec_DrawFoldBranch.j0 k bt491.1 t494 (⟨#[]⟩ : ByteArray) bt482.1 bt491.2.1 bt491.2.2)))))
theorem spec_DrawFoldBranch.mono_l : ∀ k, (∀ y0 y1 y2 y3 y4 y5, LeO (spec_DrawFoldBranch.j0 k y0 y1 y2 y3 y4 y5) (spec_DrawFoldBranch.j0 (k + 1) y0 y1 y2 y3 y4 y5))
 | 0 => fun _ _ _ _ _ _ r h => by simp [spec_DrawFoldBranch.j0] at h
 | k + 1 => by
  have ih0 := spec_DrawFoldBranch.mono_l k
  ·intro y0 y1 y2 y3 y4 y5
   unfold spec_DrawFoldBranch.j0
   repeat' first
   | (with_reducible exact ih0 _ _ _ _ _ _)
   | (with_reducible exact spec_BranchOf.mono _ _ _)
   | (with_reducible exact spec_l01New.mono _ _)
   | (with_reducible exact spec_l10Leaves.mono _ _ _ _)
   | (with_reducible exact LeO.refl _)
   | (with_reducible exact LeO.none _)
   | (with_reducible refine LeO.ite ?_ ?_)
   | (with_reducible refine LeO.bind ?_ (fun _ => ?_))
   | exact ih0 _ _ _ _ _ _
   | exact spec_BranchOf.mono _ _ _
   | exact spec_l01New.mono _ _
   | exact spec_l10Leaves.mono _ _ _ _
   | exact LeO.none _
   | refine LeO.ite ?_ ?_
   | refine LeO.bind ?_ (fun _ => ?_)
theorem spec_DrawFoldBranch.mono : ∀ a0 k, LeO (spec_DrawFoldBranch.f k a0) (spec_DrawFoldBranch.f (k + 1) a0) := by
 intro a0 k
 have ih0 := spec_DrawFoldBranch.mono_l k
 unfold spec_DrawFoldBranch.f
 repeat' first
   | (with_reducible exact ih0 _ _ _ _ _ _)
   | (with_reducible exact spec_BranchOf.mono _ _ _)
   | (with_reducible exact spec_l01New.mono _ _)
   | (with_reducible exact spec_l10Leaves.mono _ _ _ _)
   | (with_reducible exact LeO.refl _)
   | (with_reducible exact LeO.none _)
   | (with_reducible refine LeO.ite ?_ ?_)
   | (with_reducible refine LeO.bind ?_ (fun _ => ?_))
   | exact ih0 _ _ _ _ _ _
   | exact spec_BranchOf.mono _ _ _
   | exact spec_l01New.mono _ _
   | exact spec_l10Leaves.mono _ _ _ _
   | exact LeO.none _
   | refine LeO.ite ?_ ?_
   | refine LeO.bind ?_ (fun _ => ?_)
set_option maxHeartbeats 8000000 in
set_option maxRecDepth 100000 in
theorem spec_DrawFoldBranch.calls (k : Nat) (A0 : Option Addr) (c0 : Nat) (l0 : List Int) (r1 : ByteArray) (r2 : Int) (r3 : List ByteArray) (w : World) (hr0 : Kd.C (Kd.int .u8) w A0 l0.length l0) (hc0 : l0.length ≤ c0) (h : spec_DrawFoldBranch.f k l0 = some (r1, r2, r3)) :
  Calls Tryd.prog 34 #[.slice A0 l0.length c0] w fun e w' => ∃ v2_ : Value, e = .returned (.tuple #[.string r1, .int .i64 r2, v2_]) ∧ Kd.R Kd.string 9 w' w.heap.size (fun _ => True) v2_ r3 ∧ Below w.heap.size w w' := by
 have HR0 := Aside0.mk hr0
 have HC0 := Aside0.mk hc0
 clear hr0 hc0
 have HB := Aside0.mk (Below.refl w.heap.size w)
 have H : ((spec_l01New.f k l0).bind fun bt482 => ((spec_l10Leaves.f k bt482.1 bt482.2.1 bt482.2.2).bind fun bt486 => ((spec_l01Below.f bt482.1 bt486.2.1 bt486.2.2 9).bind fun bt491 => ((spec_BranchOf.f k bt486.1 bt491.1).bind fun t494 => (if bt491.1 < (bt486.1.length : Int) then (if 0 ≤ bt491.1 then (spec_DrawFoldBranch.j0 k bt491.1 t494 (rdOf ByteArray.empty bt486.1 bt491.1) bt482.1 bt491.2.1 bt491.2.2) else (none)) else (spec_DrawFoldBranch.j0 k bt491.1 t494 (⟨#[]⟩ : ByteArray) bt482.1 bt491.2.1 bt491.2.2)))))) = some (r1, r2, r3) := h
 clear h
 replace H := Option.bind_eq_some_iff.mp H
 obtain ⟨⟨t482, t483, t484⟩, A20, H⟩ := H
 replace H : ((spec_l10Leaves.f k t482 t483 t484).bind fun bt486 => ((spec_l01Below.f t482 bt486.2.1 bt486.2.2 9).bind fun bt491 => ((spec_BranchOf.f k bt486.1 bt491.1).bind fun t494 => (if bt491.1 < (bt486.1.length : Int) then (if 0 ≤ bt491.1 then (spec_DrawFoldBranch.j0 k bt491.1 t494 (rdOf ByteArray.empty bt486.1 bt491.1) t482 bt491.2.1 bt491.2.2) else (none)) else (spec_DrawFoldBranch.j0 k bt491.1 t494 (⟨#[]⟩ : ByteArray) t482 bt491.2.1 bt491.2.2))))) = some (r1, r2, r3) := H
 have A2 := Aside0.mk A20
 clear A20
 replace H := Option.bind_eq_some_iff.mp H
 obtain ⟨⟨t486, t489, t490⟩, A30, H⟩ := H
 replace H : ((spec_l01Below.f t482 t489 t490 9).bind fun bt491 => ((spec_BranchOf.f k t486 bt491.1).bind fun t494 => (if bt491.1 < (t486.length : Int) then (if 0 ≤ bt491.1 then (spec_DrawFoldBranch.j0 k bt491.1 t494 (rdOf ByteArray.empty t486 bt491.1) t482 bt491.2.1 bt491.2.2) else (none)) else (spec_DrawFoldBranch.j0 k bt491.1 t494 (⟨#[]⟩ : ByteArray) t482 bt491.2.1 bt491.2.2)))) = some (r1, r2, r3) := H
 have A3 := Aside0.mk A30
 clear A30
 replace H := Option.bind_eq_some_iff.mp H
 obtain ⟨⟨t491, t492, t493⟩, A40, H⟩ := H
 replace H : ((spec_BranchOf.f k t486 t491).bind fun t494 => (if t491 < (t486.length : Int) then (if 0 ≤ t491 then (spec_DrawFoldBranch.j0 k t491 t494 (rdOf ByteArray.empty t486 t491) t482 t492 t493) else (none)) else (spec_DrawFoldBranch.j0 k t491 t494 (⟨#[]⟩ : ByteArray) t482 t492 t493))) = some (r1, r2, r3) := H
 have A4 := Aside0.mk A40
 clear A40
 replace H := Option.bind_eq_some_iff.mp H
 obtain ⟨t494, A50, H⟩ := H
 replace H : (if t491 < (t486.length : Int) then (if 0 ≤ t491 then (spec_DrawFoldBranch.j0 k t491 t494 (rdOf ByteArray.empty t486 t491) t482 t492 t493) else (none)) else (spec_DrawFoldBranch.j0 k t491 t494 (⟨#[]⟩ : ByteArray) t482 t492 t493)) = some (r1, r2, r3) := H
 have A5 := Aside0.mk A50
 clear A50
 have HC6 := Aside0.mk H
 clear H
 go_enter Tryd.func34, Tryd.ntmps34
 go_upto_if 22 with (first | ((with_reducible refine gate_callee (f := 59) rfl ?_); refine goesL_ (some 11) rfl rfl Tryd.func59 (by kernel_rfl) rfl #[.slice A0 l0.length c0] rfl (by (try simp only [List.map_toArray, List.map_cons, List.map_nil]); first | done | rfl | (simp only [List.length_drop, List.length_take]; rfl)) ?_; (with_reducible refine (spec_l01New.calls k _ _ l0 t482 t483 t484 w _ ?side1 ?side2 ?side3 A2.out).mono ?_); (case side1 => repeat (first | (with_reducible first | exact HB.out | apply below_alloc | apply pw_below_drewN | apply below_drew1) | exact HB.out)); (case side2 => exact HR0.out); (case side3 => exact HC0.out); rintro e w7 ⟨g485, rfl, hi, hb, hb2⟩; refine ⟨_, rfl, ?_⟩; replace HB := Aside0.mk (hb); have HI485 := Aside0.mk (hi); (try clear hb); (try clear hb2); (try clear hk); (try clear hi)) | ((with_reducible refine gate_callee (f := 67) rfl ?_); refine goesL_ (some 13) rfl rfl Tryd.func67 (by kernel_rfl) rfl #[.pointer (some ⟨g485, 0, none⟩)] rfl (by (try simp only [List.map_toArray, List.map_cons, List.map_nil]); first | done | rfl | (simp only [List.length_drop, List.length_take]; rfl)) ?_; (with_reducible refine (spec_l10Leaves.calls k g485 t482 t483 t484 t486 t489 t490 w _ ?side1 ?side2 A3.out).mono ?_); (case side1 => repeat (first | (with_reducible first | exact HI485.out | apply IsS93.alloc | apply IsS93.drewN | apply IsS93.drew | apply IsS93.set_1 | apply IsS93.set_2) | exact HI485.out)); (case side2 => repeat (first | (with_reducible first | exact HB.out | apply below_alloc | apply pw_below_drewN | apply below_drew1 | refine below_set ?_ (IsS93.ge HI485.out)) | exact HB.out)); rintro e w8 ⟨v487, rfl, ho0, hi, hb, hk⟩; refine ⟨_, rfl, ?_⟩; have HO488 := Aside0.mk (Kd.R_lower ho0 (below_size (by repeat (first | (with_reducible first | exact HB.out | apply below_alloc | apply pw_below_drewN | apply below_drew1 | refine below_set ?_ (IsS93.ge HI485.out)) | exact HB.out)))); replace HB := Aside0.mk (hb); replace HI485 := Aside0.mk (hi); (try clear hb); (try clear hb2); (try clear hk); (try clear hi); (try clear ho0)) | ((with_reducible refine gate_callee (f := 60) rfl ?_); refine goesL_ (some 15) rfl rfl Tryd.func60 (by kernel_rfl) rfl #[.pointer (some ⟨g485, 0, none⟩), .int .i64 9] rfl (by (try simp only [List.map_toArray, List.map_cons, List.map_nil]); first | done | rfl | (simp only [List.length_drop, List.length_take]; rfl)) ?_; (with_reducible refine (spec_l01Below.calls g485 t482 t489 t490 9 t491 t492 t493 w _ ?side1 ?side2 A4.out).mono ?_); (case side1 => repeat (first | (with_reducible first | exact HI485.out | apply IsS93.alloc | apply IsS93.drewN | apply IsS93.drew | apply IsS93.set_1 | apply IsS93.set_2) | exact HI485.out)); (case side2 => repeat (first | (with_reducible first | exact HB.out | apply below_alloc | apply pw_below_drewN | apply below_drew1 | refine below_set ?_ (IsS93.ge HI485.out)) | exact HB.out)); rintro e w9 ⟨rfl, hi, hb, hk⟩; refine ⟨_, rfl, ?_⟩; replace HO488 := Aside0.mk (Kd.R_mono (Kd.R_keep (IsS93.apart (show IsS93 w _ g485 t482 t489 t490 from by repeat (first | (with_reducible first | exact HI485.out | apply IsS93.alloc | apply IsS93.drewN | apply IsS93.drew | apply IsS93.set_1 | apply IsS93.set_2) | exact HI485.out)) (by (with_reducible repeat (first | apply Kd.R_alloc | apply Kd.R_drewN | apply Kd.R_drew)); exact HO488.out) (by decide)) hk (fun _ h => h.2)) (fun _ h => h.1)); replace HB := Aside0.mk (hb); replace HI485 := Aside0.mk (hi); (try clear hb); (try clear hb2); (try clear hk); (try clear hi); obtain ⟨Ao10, co10, eo10⟩ := Kd.R_slice HO488.out; subst eo10) | ((with_reducible refine gate_callee (f := 22) rfl ?_); refine goesL_ (some 18) rfl rfl Tryd.func22 (by kernel_rfl) rfl #[.slice Ao10 t486.length co10, .int .i64 t491] rfl (by (try simp only [List.map_toArray, List.map_cons, List.map_nil]); first | done | rfl | (simp only [List.length_drop, List.length_take]; rfl)) ?_; (with_reducible refine (spec_BranchOf.calls k _ _ t486 t491 t494 _ ?side1 ?side2 A5.out).mono ?_); (case side1 => repeat (first | exact (Kd.R_reads' HO488.out).2.2 | (with_reducible refine Kd.C_alloc ?_ _) | (with_reducible refine Kd.C_drewN ?_ _) | (with_reducible refine Kd.C_drew ?_))); (case side2 => exact (Kd.R_reads' HO488.out).2.1); rintro e w11 ⟨v495, rfl, ho0, hb⟩; refine ⟨_, rfl, ?_⟩; have HO496 := Aside0.mk (Kd.R_lower (Kd.R_new' ho0 (Kd.R_lt (by (with_reducible repeat (first | apply Kd.R_alloc | apply Kd.R_drewN | apply Kd.R_drew)); exact HO488.out))) (below_size (by repeat (first | (with_reducible first | exact HB.out | apply below_alloc | apply pw_below_drewN | apply below_drew1 | refine below_set ?_ (IsS93.ge HI485.out)) | exact HB.out)))); replace HO488 := Aside0.mk (Kd.R_elder' (by (with_reducible repeat (first | apply Kd.R_alloc | apply Kd.R_drewN | apply Kd.R_drew)); exact HO488.out) (Kd.R_base ho0) hb); replace HB := Aside0.mk (below_step (by repeat (first | (with_reducible first | exact HB.out | apply below_alloc | apply pw_below_drewN | apply below_drew1 | refine below_set ?_ (IsS93.ge HI485.out)) | exact HB.out)) hb); replace HI485 := Aside0.mk (IsS93.below (by repeat (first | (with_reducible first | exact HI485.out | apply IsS93.alloc | apply IsS93.drewN | apply IsS93.drew | apply IsS93.set_1 | apply IsS93.set_2) | exact HI485.out)) hb); (try clear hb); (try clear hb2); (try clear hk); (try clear hi); (try clear ho0)))
 (try simp only [Act.put, List.setIfInBounds_toArray, List.set_cons_zero, List.set_cons_succ])
 go_cut [9] (fun v9 wc => ∃ (kq : Nat) (x9_5 : ByteArray), v9 = .string x9_5 ∧ Aside0 (spec_DrawFoldBranch.j0 kq t491 t494 x9_5 t482 t492 t493 = some (r1, r2, r3)) ∧ Aside0 (kq ≤ k) ∧ Aside0 (Kd.R Kd.string 9 wc w.heap.size (fun _ => True) v495 t494) ∧ Aside0 (IsS93 w wc g485 t482 t492 t493) ∧ Aside0 (Below w.heap.size w wc))
 case first =>
  have H := HC6.out
  clear HC6
  by_cases c12 : t491 < (t486.length : Int)
  ·rw [if_pos c12] at H
   have c12b0 : decide (t491 < (t486.length : Int)) = true := decide_eq_true c12
   clear c12
   (first | rw [c12b0] | (simp only [i64_w, i32_w]; rw [c12b0]) | rw [c12b1] | skip)
   by_cases c13 : 0 ≤ t491
   ·rw [if_pos c13] at H
    have c13b0 : decide (0 ≤ t491) = true := decide_eq_true c13
    clear c13
    have H' := Aside0.mk H
    clear H
    have p497 : 0 ≤ (t491 : Int) := of_decide_eq_true (by first | (with_reducible assumption) | assumption)
    have q497 : t491 < (t486.length : Int) := of_decide_eq_true (by first | (with_reducible assumption) | assumption)
    obtain ⟨ad497, e497, hx497_0⟩ := Kd.at_string (Kd.R_reads' HO488.out).2.2 t491 p497 q497
    cases e497
    replace p497 := eq_true p497
    replace q497 := eq_true q497
    go_wp2
    go_meet
    case rel => exact ⟨_, (rdOf ByteArray.empty t486 t491), (by first | rfl | (simp; done) | (simp [*]; done)), H', ⟨by first | omega | exact Nat.le_refl _⟩, ⟨by (with_reducible repeat (first | apply Kd.R_alloc | apply Kd.R_drewN | apply Kd.R_drew)); exact Kd.R_mono HO496.out (fun _ hk => trivial)⟩, ⟨by repeat (first | (with_reducible first | exact HI485.out | apply IsS93.alloc | apply IsS93.drewN | apply IsS93.drew | apply IsS93.set_1 | apply IsS93.set_2) | exact HI485.out)⟩, ⟨by repeat (first | (with_reducible first | exact HB.out | apply below_alloc | apply pw_below_drewN | apply below_drew1 | refine below_set ?_ (IsS93.ge HI485.out)) | exact HB.out)⟩⟩
   ·rw [if_neg c13] at H
    exact absurd H (by simp)
  ·rw [if_neg c12] at H
   have c12b0 : decide (t491 < (t486.length : Int)) = false := decide_eq_false c12
   clear c12
   (first | rw [c12b0] | (simp only [i64_w, i32_w]; rw [c12b0]) | rw [c12b1] | skip)
   have H' := Aside0.mk H
   clear H
   go_wp2
   go_meet
   case rel => exact ⟨_, ((⟨#[]⟩ : ByteArray)), (by first | rfl | (simp; done) | (simp [*]; done)), H', ⟨by first | omega | exact Nat.le_refl _⟩, ⟨by (with_reducible repeat (first | apply Kd.R_alloc | apply Kd.R_drewN | apply Kd.R_drew)); exact Kd.R_mono HO496.out (fun _ hk => trivial)⟩, ⟨by repeat (first | (with_reducible first | exact HI485.out | apply IsS93.alloc | apply IsS93.drewN | apply IsS93.drew | apply IsS93.set_1 | apply IsS93.set_2) | exact HI485.out)⟩, ⟨by repeat (first | (with_reducible first | exact HB.out | apply below_alloc | apply pw_below_drewN | apply below_drew1 | refine below_set ?_ (IsS93.ge HI485.out)) | exact HB.out)⟩⟩
 case rest =>
  clear HC6
  try clear c1
  try clear c2
  try clear p2
  try clear c3
  try clear p4
  try clear q4
  try clear hx4
  try clear c5
  try clear c6
  try clear c12
  try clear c12b0
  try clear c13
  try clear c13b0
  try clear hx497_0
  try clear p497
  try clear q497
  obtain ⟨kq, x9_5, rfl, HA, HJ5, HO_8, HI485, HB⟩ := hcut
  cases kq with
  | zero => exact absurd HA.out (by simp [spec_DrawFoldBranch.j0])
  | succ kj5 =>
   have H := HA.out
   clear HA
   simp only [spec_DrawFoldBranch.j0] at H
   replace H := Option.bind_eq_some_iff.mp H
   obtain ⟨⟨t498, t499, t500⟩, A140, H⟩ := H
   replace H : (if t498 = 0 then ((spec_l01Place.f t482 t499 t500 31).bind fun bt501 => (some (x9_5, bt501.1, t494))) else (if t498 = 1 then ((some (([(⟨#[120]⟩ : ByteArray), (⟨#[121]⟩ : ByteArray), (⟨#[122]⟩ : ByteArray)] : List ByteArray) : List ByteArray)).bind fun y504 => (if t494.length + y504.length < 8796093022208 then (some (x9_5, t491, (t494 ++ y504))) else (none))) else (some (x9_5, t491, t494)))) = some (r1, r2, r3) := H
   have A14 := Aside0.mk A140
   clear A140
   by_cases c15 : t498 = 0
   ·rw [if_pos c15] at H
    have c15b0 : (t498 == 0) = true := beq_iff_eq.mpr c15
    have c15b1 : (t498 != 0) = false := bne_eq_false_iff_eq.mpr c15
    clear c15
    replace H := Option.bind_eq_some_iff.mp H
    obtain ⟨⟨t501, t502, t503⟩, A160, H⟩ := H
    replace H : (some (x9_5, t501, t494)) = some (r1, r2, r3) := H
    have A16 := Aside0.mk A160
    clear A160
    simp only [Option.some.injEq, Prod.mk.injEq] at H
    obtain ⟨rfl, rfl, rfl⟩ := H
    go_wp2_with (first | ((with_reducible refine gate_callee (f := 60) rfl ?_); refine goesL_ (some 28) rfl rfl Tryd.func60 (by kernel_rfl) rfl #[.pointer (some ⟨g485, 0, none⟩), .int .i64 6] rfl (by (try simp only [List.map_toArray, List.map_cons, List.map_nil]); first | done | rfl | (simp only [List.length_drop, List.length_take]; rfl)) ?_; (with_reducible refine (spec_l01Below.calls g485 t482 t492 t493 6 t498 t499 t500 w _ ?side1 ?side2 A14.out).mono ?_); (case side1 => repeat (first | (with_reducible first | exact HI485.out | apply IsS93.alloc | apply IsS93.drewN | apply IsS93.drew | apply IsS93.set_1 | apply IsS93.set_2) | exact HI485.out)); (case side2 => repeat (first | (with_reducible first | exact HB.out | apply below_alloc | apply pw_below_drewN | apply below_drew1 | refine below_set ?_ (IsS93.ge HI485.out)) | exact HB.out)); rintro e w17 ⟨rfl, hi, hb, hk⟩; refine ⟨_, rfl, ?_⟩; replace HO_8 := Aside0.mk (Kd.R_mono (Kd.R_keep (IsS93.apart (show IsS93 w _ g485 t482 t492 t493 from by repeat (first | (with_reducible first | exact HI485.out | apply IsS93.alloc | apply IsS93.drewN | apply IsS93.drew | apply IsS93.set_1 | apply IsS93.set_2) | exact HI485.out)) (by (with_reducible repeat (first | apply Kd.R_alloc | apply Kd.R_drewN | apply Kd.R_drew)); exact HO_8.out) (by decide)) hk (fun _ h => h.2)) (fun _ h => h.1)); replace HB := Aside0.mk (hb); replace HI485 := Aside0.mk (hi); (try clear hb); (try clear hb2); (try clear hk); (try clear hi)) | ((with_reducible refine gate_callee (f := 68) rfl ?_); refine goesL_ (some 32) rfl rfl Tryd.func68 (by kernel_rfl) rfl #[.pointer (some ⟨g485, 0, none⟩), .int .i64 31] rfl (by (try simp only [List.map_toArray, List.map_cons, List.map_nil]); first | done | rfl | (simp only [List.length_drop, List.length_take]; rfl)) ?_; (with_reducible refine (spec_l01Place.calls g485 t482 t499 t500 31 t501 t502 t503 w _ ?side1 ?side2 A16.out).mono ?_); (case side1 => repeat (first | (with_reducible first | exact HI485.out | apply IsS93.alloc | apply IsS93.drewN | apply IsS93.drew | apply IsS93.set_1 | apply IsS93.set_2) | exact HI485.out)); (case side2 => repeat (first | (with_reducible first | exact HB.out | apply below_alloc | apply pw_below_drewN | apply below_drew1 | refine below_set ?_ (IsS93.ge HI485.out)) | exact HB.out)); rintro e w18 ⟨rfl, hi, hb, hk⟩; refine ⟨_, rfl, ?_⟩; replace HO_8 := Aside0.mk (Kd.R_mono (Kd.R_keep (IsS93.apart (show IsS93 w _ g485 t482 t499 t500 from by repeat (first | (with_reducible first | exact HI485.out | apply IsS93.alloc | apply IsS93.drewN | apply IsS93.drew | apply IsS93.set_1 | apply IsS93.set_2) | exact HI485.out)) (by (with_reducible repeat (first | apply Kd.R_alloc | apply Kd.R_drewN | apply Kd.R_drew)); exact HO_8.out) (by decide)) hk (fun _ h => h.2)) (fun _ h => h.1)); replace HB := Aside0.mk (hb); replace HI485 := Aside0.mk (hi); (try clear hb); (try clear hb2); (try clear hk); (try clear hi)))
    go_ret3
    exact ⟨_, by first | rfl | (simp [errW_none, errW_some] <;> rfl) | (simp [*, errW_none, errW_some] <;> rfl), by (with_reducible repeat (first | apply Kd.R_alloc | apply Kd.R_drewN | apply Kd.R_drew)); exact HO_8.out, by repeat (first | (with_reducible first | exact HB.out | apply below_alloc | apply pw_below_drewN | apply below_drew1 | refine below_set ?_ (IsS93.ge HI485.out)) | exact HB.out)⟩
   ·rw [if_neg c15] at H
    have c15b0 : (t498 == 0) = false := beq_eq_false_iff_ne.mpr c15
    have c15b1 : (t498 != 0) = true := bne_iff_ne.mpr c15
    by_cases c19 : t498 = 1
    ·rw [if_pos c19] at H
     have c19b0 : (t498 == 1) = true := beq_iff_eq.mpr c19
     have c19b1 : (t498 != 1) = false := bne_eq_false_iff_eq.mpr c19
     clear c19
     obtain ⟨y504, hy504⟩ : ∃ y_ : List ByteArray, y_ = (([(⟨#[120]⟩ : ByteArray), (⟨#[121]⟩ : ByteArray), (⟨#[122]⟩ : ByteArray)] : List ByteArray)) := ⟨_, rfl⟩
     replace H : (if t494.length + y504.length < 8796093022208 then (some (x9_5, t491, (t494 ++ y504))) else (none)) = some (r1, r2, r3) := by first | (rw [hy504]; with_reducible exact H) | (have H2_ := (Option.bind_some _ _).symm.trans H; rw [hy504]; with_reducible exact H2_) | (have H2_ := (Option.bind_some _ _).symm.trans H; with_reducible exact H2_) | with_reducible exact H | (rw [hy504]; exact H) | exact H
     have Ny504 := Aside0.mk hy504
     clear hy504
     by_cases c20 : t494.length + y504.length < 8796093022208
     ·rw [if_pos c20] at H
      have LMc20 := Aside0.mk c20
      clear c20
      obtain ⟨y507, hy507⟩ : ∃ y_ : List ByteArray, y_ = (t494 ++ y504) := ⟨_, rfl⟩
      replace H : (some (x9_5, t491, y507)) = some (r1, r2, r3) := by first | (rw [hy507]; with_reducible exact H) | (have H2_ := (Option.bind_some _ _).symm.trans H; rw [hy507]; with_reducible exact H2_) | (have H2_ := (Option.bind_some _ _).symm.trans H; with_reducible exact H2_) | with_reducible exact H | (rw [hy507]; exact H) | exact H
      have Ny507 := Aside0.mk hy507
      clear hy507
      simp only [Option.some.injEq, Prod.mk.injEq] at H
      obtain ⟨rfl, rfl, rfl⟩ := H
      go_wp2_with (first | ((with_reducible refine gate_callee (f := 60) rfl ?_); refine goesL_ (some 28) rfl rfl Tryd.func60 (by kernel_rfl) rfl #[.pointer (some ⟨g485, 0, none⟩), .int .i64 6] rfl (by (try simp only [List.map_toArray, List.map_cons, List.map_nil]); first | done | rfl | (simp only [List.length_drop, List.length_take]; rfl)) ?_; (with_reducible refine (spec_l01Below.calls g485 t482 t492 t493 6 t498 t499 t500 w _ ?side1 ?side2 A14.out).mono ?_); (case side1 => repeat (first | (with_reducible first | exact HI485.out | apply IsS93.alloc | apply IsS93.drewN | apply IsS93.drew | apply IsS93.set_1 | apply IsS93.set_2) | exact HI485.out)); (case side2 => repeat (first | (with_reducible first | exact HB.out | apply below_alloc | apply pw_below_drewN | apply below_drew1 | refine below_set ?_ (IsS93.ge HI485.out)) | exact HB.out)); rintro e w21 ⟨rfl, hi, hb, hk⟩; refine ⟨_, rfl, ?_⟩; replace HO_8 := Aside0.mk (Kd.R_mono (Kd.R_keep (IsS93.apart (show IsS93 w _ g485 t482 t492 t493 from by repeat (first | (with_reducible first | exact HI485.out | apply IsS93.alloc | apply IsS93.drewN | apply IsS93.drew | apply IsS93.set_1 | apply IsS93.set_2) | exact HI485.out)) (by (with_reducible repeat (first | apply Kd.R_alloc | apply Kd.R_drewN | apply Kd.R_drew)); exact HO_8.out) (by decide)) hk (fun _ h => h.2)) (fun _ h => h.1)); replace HB := Aside0.mk (hb); replace HI485 := Aside0.mk (hi); (try clear hb); (try clear hb2); (try clear hk); (try clear hi)) | ((with_reducible refine gate_dst (N := 36) rfl ?_); refine Kd.R_lit Kd.string _ 9 ?hg (N := 36) ?hd (xs := ([(⟨#[120]⟩ : ByteArray), (⟨#[121]⟩ : ByteArray), (⟨#[122]⟩ : ByteArray)] : List ByteArray)) (inner := [.string (⟨#[120]⟩ : ByteArray), .string (⟨#[121]⟩ : ByteArray), .string (⟨#[122]⟩ : ByteArray)]) (ok := fun _ => True) (okp := fun _ => True) ?hr ?hp (fun _ hk => hk) trivial (Below.refl _ _) (Nat.le_refl _) (by simp) ?_; (case hd => rfl); (case hg => rfl); (case hr => first | (go_simp; done) | (go_simp; rfl)); (case hp => exact (Reps.one (show Kd.M Kd.string _ _ _ (⟨#[120]⟩ : ByteArray) [.string (⟨#[120]⟩ : ByteArray)] from rfl) (Reps.one (show Kd.M Kd.string _ _ _ (⟨#[121]⟩ : ByteArray) [.string (⟨#[121]⟩ : ByteArray)] from rfl) (Reps.one (show Kd.M Kd.string _ _ _ (⟨#[122]⟩ : ByteArray) [.string (⟨#[122]⟩ : ByteArray)] from rfl) (Reps.none _ _))))); intro v505 w22 ho23 hb hg_ hnew_; clear hg_ hnew_; (first | rw [← Ny504.out] at ho23 | (simp only [Int.reduceToNat] at ho23; rw [← Ny504.out] at ho23)); have HO506 := Aside0.mk (Kd.R_lower (Kd.R_new' ho23 (Kd.R_lt (by (with_reducible repeat (first | apply Kd.R_alloc | apply Kd.R_drewN | apply Kd.R_drew)); exact HO_8.out))) (below_size (by repeat (first | (with_reducible first | exact HB.out | apply below_alloc | apply pw_below_drewN | apply below_drew1 | refine below_set ?_ (IsS93.ge HI485.out)) | exact HB.out)))); replace HO_8 := Aside0.mk (Kd.R_elder' (by (with_reducible repeat (first | apply Kd.R_alloc | apply Kd.R_drewN | apply Kd.R_drew)); exact HO_8.out) (Kd.R_base ho23) hb); replace HB := Aside0.mk (below_step (by repeat (first | (with_reducible first | exact HB.out | apply below_alloc | apply pw_below_drewN | apply below_drew1 | refine below_set ?_ (IsS93.ge HI485.out)) | exact HB.out)) hb); replace HI485 := Aside0.mk (IsS93.below (by repeat (first | (with_reducible first | exact HI485.out | apply IsS93.alloc | apply IsS93.drewN | apply IsS93.drew | apply IsS93.set_1 | apply IsS93.set_2) | exact HI485.out)) hb); clear hb ho23; obtain ⟨Ao25, co25, eo25⟩ := Kd.R_slice HO506.out; subst eo25) | ((with_reducible refine gate_builtin (b := .append) (xs := #[.tmp 35, .tmp 36]) rfl ?_); at_builtin; refine Kd.R_append_rows Kd.string (w0 := w) w.heap.size rfl (.tmp 35) (.tmp 36) 22 9 (.string ⟨#[]⟩) 16 rfl Tryd.underlying22 info9 rfl (by decide) (by omega) v495 t494 y504 _ _ _ (fun k_ => some k_ ≠ (.slice Ao25 y504.length co25 : Value).ownBlock) (fun _ => False) rfl rfl ?aO ?aR (fun _ _ h => h) (fun _ h => h.elim) ?aF ?aB ?aS ?aL ?_; (case aR => repeat (first | exact (Kd.R_reads' HO506.out).2.2 | (with_reducible refine Kd.C_alloc ?_ _) | (with_reducible refine Kd.C_drewN ?_ _) | (with_reducible refine Kd.C_drew ?_))); (case aB => exact (by repeat (first | (with_reducible first | exact HB.out | apply below_alloc | apply pw_below_drewN | apply below_drew1 | refine below_set ?_ (IsS93.ge HI485.out)) | exact HB.out))); (case aF => exact (fun k_ hk => Kd.fresh' (Kd.R_lt (by (with_reducible repeat (first | apply Kd.R_alloc | apply Kd.R_drewN | apply Kd.R_drew)); exact HO506.out)) k_ hk)); (case aO => exact (by (with_reducible repeat (first | apply Kd.R_alloc | apply Kd.R_drewN | apply Kd.R_drew)); exact Kd.R_mono HO_8.out (fun _ hk => hk.2))); (case aS => exact (below_size (by repeat (first | (with_reducible first | exact HB.out | apply below_alloc | apply pw_below_drewN | apply below_drew1 | refine below_set ?_ (IsS93.ge HI485.out)) | exact HB.out)))); (case aL => have := LMc20.out; omega); intro v508 w24 ho hb hg hat; rw [← Ny507.out] at ho; replace HI485 := Aside0.mk (IsS93.grown (by repeat (first | (with_reducible first | exact HI485.out | apply IsS93.alloc | apply IsS93.drewN | apply IsS93.drew | apply IsS93.set_1 | apply IsS93.set_2) | exact HI485.out)) hg (IsS93.own_ne HI485.out HO_8.out (by decide))); replace HO506 := Aside0.mk (Kd.R_after (ok := (fun _ => True)) (by (with_reducible repeat (first | apply Kd.R_alloc | apply Kd.R_drewN | apply Kd.R_drew)); exact HO506.out) hg hat); replace HB := Aside0.mk (hb); have HO509 := Aside0.mk (ho); clear HO_8; clear ho hb hg hat))
      go_ret3
      exact ⟨_, by first | rfl | (simp [errW_none, errW_some] <;> rfl) | (simp [*, errW_none, errW_some] <;> rfl), by (with_reducible repeat (first | apply Kd.R_alloc | apply Kd.R_drewN | apply Kd.R_drew)); exact Kd.R_mono HO509.out (fun _ hk => trivial), by repeat (first | (with_reducible first | exact HB.out | apply below_alloc | apply pw_below_drewN | apply below_drew1 | refine below_set ?_ (IsS93.ge HI485.out)) | exact HB.out)⟩
     ·rw [if_neg c20] at H
      exact absurd H (by simp)
    ·rw [if_neg c19] at H
     have c19b0 : (t498 == 1) = false := beq_eq_false_iff_ne.mpr c19
     have c19b1 : (t498 != 1) = true := bne_iff_ne.mpr c19
     simp only [Option.some.injEq, Prod.mk.injEq] at H
     obtain ⟨rfl, rfl, rfl⟩ := H
     go_wp2_with (first | ((with_reducible refine gate_callee (f := 60) rfl ?_); refine goesL_ (some 28) rfl rfl Tryd.func60 (by kernel_rfl) rfl #[.pointer (some ⟨g485, 0, none⟩), .int .i64 6] rfl (by (try simp only [List.map_toArray, List.map_cons, List.map_nil]); first | done | rfl | (simp only [List.length_drop, List.length_take]; rfl)) ?_; (with_reducible refine (spec_l01Below.calls g485 t482 t492 t493 6 t498 t499 t500 w _ ?side1 ?side2 A14.out).mono ?_); (case side1 => repeat (first | (with_reducible first | exact HI485.out | apply IsS93.alloc | apply IsS93.drewN | apply IsS93.drew | apply IsS93.set_1 | apply IsS93.set_2) | exact HI485.out)); (case side2 => repeat (first | (with_reducible first | exact HB.out | apply below_alloc | apply pw_below_drewN | apply below_drew1 | refine below_set ?_ (IsS93.ge HI485.out)) | exact HB.out)); rintro e w26 ⟨rfl, hi, hb, hk⟩; refine ⟨_, rfl, ?_⟩; replace HO_8 := Aside0.mk (Kd.R_mono (Kd.R_keep (IsS93.apart (show IsS93 w _ g485 t482 t492 t493 from by repeat (first | (with_reducible first | exact HI485.out | apply IsS93.alloc | apply IsS93.drewN | apply IsS93.drew | apply IsS93.set_1 | apply IsS93.set_2) | exact HI485.out)) (by (with_reducible repeat (first | apply Kd.R_alloc | apply Kd.R_drewN | apply Kd.R_drew)); exact HO_8.out) (by decide)) hk (fun _ h => h.2)) (fun _ h => h.1)); replace HB := Aside0.mk (hb); replace HI485 := Aside0.mk (hi); (try clear hb); (try clear hb2); (try clear hk); (try clear hi)))
     go_ret3
     exact ⟨_, by first | rfl | (simp [errW_none, errW_some] <;> rfl) | (simp [*, errW_none, errW_some] <;> rfl), by (with_reducible repeat (first | apply Kd.R_alloc | apply Kd.R_drewN | apply Kd.R_drew)); exact HO_8.out, by repeat (first | (with_reducible first | exact HB.out | apply below_alloc | apply pw_below_drewN | apply below_drew1 | refine below_set ?_ (IsS93.ge HI485.out)) | exact HB.out)⟩
/-! ### spec_DrawRootOf: function 35 -/
def spec_DrawRootOf.f (k : Nat) (l0 : List Int) : Option (List ByteArray) := (spec_l01New.f k l0).bind fun bt510 => ((spec_l10Leaves.f k bt510.1 bt510.2.1 bt510.2.2).bind fun bt514 => (some bt514.1))
theorem spec_DrawRootOf.mono : ∀ a0 k, LeO (spec_DrawRootOf.f k a0) (spec_DrawRootOf.f (k + 1) a0) := by
 intro a0 k
 unfold spec_DrawRootOf.f
 repeat' first
   | (with_reducible exact spec_l01New.mono _ _)
   | (with_reducible exact spec_l10Leaves.mono _ _ _ _)
   | (with_reducible exact LeO.refl _)
   | (with_reducible exact LeO.none _)
   | (with_reducible refine LeO.ite ?_ ?_)
   | (with_reducible refine LeO.bind ?_ (fun _ => ?_))
   | exact spec_l01New.mono _ _
   | exact spec_l10Leaves.mono _ _ _ _
   | exact LeO.none _
   | refine LeO.ite ?_ ?_
   | refine LeO.bind ?_ (fun _ => ?_)
set_option maxHeartbeats 8000000 in
set_option maxRecDepth 100000 in
theorem spec_DrawRootOf.calls (k : Nat) (A0 : Option Addr) (c0 : Nat) (l0 : List Int) (r : List ByteArray) (w : World) (hr0 : Kd.C (Kd.int .u8) w A0 l0.length l0) (hc0 : l0.length ≤ c0) (h : spec_DrawRootOf.f k l0 = some r) :
  Calls Tryd.prog 35 #[.slice A0 l0.length c0] w fun e w' => ∃ v0_ : Value, e = .returned (v0_) ∧ Kd.R Kd.string 9 w' w.heap.size (fun _ => True) v0_ r ∧ Below w.heap.size w w' := by
 have HR0 := Aside0.mk hr0
 have HC0 := Aside0.mk hc0
 clear hr0 hc0
 have HB := Aside0.mk (Below.refl w.heap.size w)
 have H : ((spec_l01New.f k l0).bind fun bt510 => ((spec_l10Leaves.f k bt510.1 bt510.2.1 bt510.2.2).bind fun bt514 => (some bt514.1))) = some r := h
 clear h
 replace H := Option.bind_eq_some_iff.mp H
 obtain ⟨⟨t510, t511, t512⟩, A20, H⟩ := H
 replace H : ((spec_l10Leaves.f k t510 t511 t512).bind fun bt514 => (some bt514.1)) = some r := H
 have A2 := Aside0.mk A20
 clear A20
 replace H := Option.bind_eq_some_iff.mp H
 obtain ⟨⟨t514, t517, t518⟩, A30, H⟩ := H
 replace H : (some t514) = some r := H
 have A3 := Aside0.mk A30
 clear A30
 obtain rfl := Option.some.inj H
 go_enter Tryd.func35, Tryd.ntmps35
 go_wp2_with (first | ((with_reducible refine gate_callee (f := 59) rfl ?_); refine goesL_ (some 4) rfl rfl Tryd.func59 (by kernel_rfl) rfl #[.slice A0 l0.length c0] rfl (by (try simp only [List.map_toArray, List.map_cons, List.map_nil]); first | done | rfl | (simp only [List.length_drop, List.length_take]; rfl)) ?_; (with_reducible refine (spec_l01New.calls k _ _ l0 t510 t511 t512 w _ ?side1 ?side2 ?side3 A2.out).mono ?_); (case side1 => repeat (first | (with_reducible first | exact HB.out | apply below_alloc | apply pw_below_drewN | apply below_drew1) | exact HB.out)); (case side2 => exact HR0.out); (case side3 => exact HC0.out); rintro e w4 ⟨g513, rfl, hi, hb, hb2⟩; refine ⟨_, rfl, ?_⟩; replace HB := Aside0.mk (hb); have HI513 := Aside0.mk (hi); (try clear hb); (try clear hb2); (try clear hk); (try clear hi)) | ((with_reducible refine gate_callee (f := 67) rfl ?_); refine goesL_ (some 5) rfl rfl Tryd.func67 (by kernel_rfl) rfl #[.pointer (some ⟨g513, 0, none⟩)] rfl (by (try simp only [List.map_toArray, List.map_cons, List.map_nil]); first | done | rfl | (simp only [List.length_drop, List.length_take]; rfl)) ?_; (with_reducible refine (spec_l10Leaves.calls k g513 t510 t511 t512 t514 t517 t518 w _ ?side1 ?side2 A3.out).mono ?_); (case side1 => repeat (first | (with_reducible first | exact HI513.out | apply IsS93.alloc | apply IsS93.drewN | apply IsS93.drew | apply IsS93.set_1 | apply IsS93.set_2) | exact HI513.out)); (case side2 => repeat (first | (with_reducible first | exact HB.out | apply below_alloc | apply pw_below_drewN | apply below_drew1 | refine below_set ?_ (IsS93.ge HI513.out)) | exact HB.out)); rintro e w5 ⟨v515, rfl, ho0, hi, hb, hk⟩; refine ⟨_, rfl, ?_⟩; have HO516 := Aside0.mk (Kd.R_lower ho0 (below_size (by repeat (first | (with_reducible first | exact HB.out | apply below_alloc | apply pw_below_drewN | apply below_drew1 | refine below_set ?_ (IsS93.ge HI513.out)) | exact HB.out)))); replace HB := Aside0.mk (hb); replace HI513 := Aside0.mk (hi); (try clear hb); (try clear hb2); (try clear hk); (try clear hi); (try clear ho0)))
 go_ret
 exact ⟨_, by first | rfl | (simp [errW_none, errW_some] <;> rfl) | (simp [*, errW_none, errW_some] <;> rfl), by (with_reducible repeat (first | apply Kd.R_alloc | apply Kd.R_drewN | apply Kd.R_drew)); exact HO516.out, by repeat (first | (with_reducible first | exact HB.out | apply below_alloc | apply pw_below_drewN | apply below_drew1 | refine below_set ?_ (IsS93.ge HI513.out)) | exact HB.out)⟩
/-! ### spec_DrawBranchOf: function 36 -/
def spec_DrawBranchOf.f (k : Nat) (l0 : List Int) : Option (List ByteArray × Int) := (spec_l01New.f k l0).bind fun bt519 => ((spec_l01Place.f bt519.1 bt519.2.1 bt519.2.2 7).bind fun bt523 => ((spec_l10Leaves.f k bt519.1 bt523.2.1 bt523.2.2).bind fun bt526 => (some (bt526.1, bt523.1))))
theorem spec_DrawBranchOf.mono : ∀ a0 k, LeO (spec_DrawBranchOf.f k a0) (spec_DrawBranchOf.f (k + 1) a0) := by
 intro a0 k
 unfold spec_DrawBranchOf.f
 repeat' first
   | (with_reducible exact spec_l01New.mono _ _)
   | (with_reducible exact spec_l10Leaves.mono _ _ _ _)
   | (with_reducible exact LeO.refl _)
   | (with_reducible exact LeO.none _)
   | (with_reducible refine LeO.ite ?_ ?_)
   | (with_reducible refine LeO.bind ?_ (fun _ => ?_))
   | exact spec_l01New.mono _ _
   | exact spec_l10Leaves.mono _ _ _ _
   | exact LeO.none _
   | refine LeO.ite ?_ ?_
   | refine LeO.bind ?_ (fun _ => ?_)
set_option maxHeartbeats 8000000 in
set_option maxRecDepth 100000 in
theorem spec_DrawBranchOf.calls (k : Nat) (A0 : Option Addr) (c0 : Nat) (l0 : List Int) (r1 : List ByteArray) (r2 : Int) (w : World) (hr0 : Kd.C (Kd.int .u8) w A0 l0.length l0) (hc0 : l0.length ≤ c0) (h : spec_DrawBranchOf.f k l0 = some (r1, r2)) :
  Calls Tryd.prog 36 #[.slice A0 l0.length c0] w fun e w' => ∃ v0_ : Value, e = .returned (.tuple #[v0_, .int .i64 r2]) ∧ Kd.R Kd.string 9 w' w.heap.size (fun _ => True) v0_ r1 ∧ Below w.heap.size w w' := by
 have HR0 := Aside0.mk hr0
 have HC0 := Aside0.mk hc0
 clear hr0 hc0
 have HB := Aside0.mk (Below.refl w.heap.size w)
 have H : ((spec_l01New.f k l0).bind fun bt519 => ((spec_l01Place.f bt519.1 bt519.2.1 bt519.2.2 7).bind fun bt523 => ((spec_l10Leaves.f k bt519.1 bt523.2.1 bt523.2.2).bind fun bt526 => (some (bt526.1, bt523.1))))) = some (r1, r2) := h
 clear h
 replace H := Option.bind_eq_some_iff.mp H
 obtain ⟨⟨t519, t520, t521⟩, A20, H⟩ := H
 replace H : ((spec_l01Place.f t519 t520 t521 7).bind fun bt523 => ((spec_l10Leaves.f k t519 bt523.2.1 bt523.2.2).bind fun bt526 => (some (bt526.1, bt523.1)))) = some (r1, r2) := H
 have A2 := Aside0.mk A20
 clear A20
 replace H := Option.bind_eq_some_iff.mp H
 obtain ⟨⟨t523, t524, t525⟩, A30, H⟩ := H
 replace H : ((spec_l10Leaves.f k t519 t524 t525).bind fun bt526 => (some (bt526.1, t523))) = some (r1, r2) := H
 have A3 := Aside0.mk A30
 clear A30
 replace H := Option.bind_eq_some_iff.mp H
 obtain ⟨⟨t526, t529, t530⟩, A40, H⟩ := H
 replace H : (some (t526, t523)) = some (r1, r2) := H
 have A4 := Aside0.mk A40
 clear A40
 simp only [Option.some.injEq, Prod.mk.injEq] at H
 obtain ⟨rfl, rfl⟩ := H
 go_enter Tryd.func36, Tryd.ntmps36
 go_wp2_with (first | ((with_reducible refine gate_callee (f := 59) rfl ?_); refine goesL_ (some 7) rfl rfl Tryd.func59 (by kernel_rfl) rfl #[.slice A0 l0.length c0] rfl (by (try simp only [List.map_toArray, List.map_cons, List.map_nil]); first | done | rfl | (simp only [List.length_drop, List.length_take]; rfl)) ?_; (with_reducible refine (spec_l01New.calls k _ _ l0 t519 t520 t521 w _ ?side1 ?side2 ?side3 A2.out).mono ?_); (case side1 => repeat (first | (with_reducible first | exact HB.out | apply below_alloc | apply pw_below_drewN | apply below_drew1) | exact HB.out)); (case side2 => exact HR0.out); (case side3 => exact HC0.out); rintro e w5 ⟨g522, rfl, hi, hb, hb2⟩; refine ⟨_, rfl, ?_⟩; replace HB := Aside0.mk (hb); have HI522 := Aside0.mk (hi); (try clear hb); (try clear hb2); (try clear hk); (try clear hi)) | ((with_reducible refine gate_callee (f := 68) rfl ?_); refine goesL_ (some 9) rfl rfl Tryd.func68 (by kernel_rfl) rfl #[.pointer (some ⟨g522, 0, none⟩), .int .i64 7] rfl (by (try simp only [List.map_toArray, List.map_cons, List.map_nil]); first | done | rfl | (simp only [List.length_drop, List.length_take]; rfl)) ?_; (with_reducible refine (spec_l01Place.calls g522 t519 t520 t521 7 t523 t524 t525 w _ ?side1 ?side2 A3.out).mono ?_); (case side1 => repeat (first | (with_reducible first | exact HI522.out | apply IsS93.alloc | apply IsS93.drewN | apply IsS93.drew | apply IsS93.set_1 | apply IsS93.set_2) | exact HI522.out)); (case side2 => repeat (first | (with_reducible first | exact HB.out | apply below_alloc | apply pw_below_drewN | apply below_drew1 | refine below_set ?_ (IsS93.ge HI522.out)) | exact HB.out)); rintro e w6 ⟨rfl, hi, hb, hk⟩; refine ⟨_, rfl, ?_⟩; replace HB := Aside0.mk (hb); replace HI522 := Aside0.mk (hi); (try clear hb); (try clear hb2); (try clear hk); (try clear hi)) | ((with_reducible refine gate_callee (f := 67) rfl ?_); refine goesL_ (some 11) rfl rfl Tryd.func67 (by kernel_rfl) rfl #[.pointer (some ⟨g522, 0, none⟩)] rfl (by (try simp only [List.map_toArray, List.map_cons, List.map_nil]); first | done | rfl | (simp only [List.length_drop, List.length_take]; rfl)) ?_; (with_reducible refine (spec_l10Leaves.calls k g522 t519 t524 t525 t526 t529 t530 w _ ?side1 ?side2 A4.out).mono ?_); (case side1 => repeat (first | (with_reducible first | exact HI522.out | apply IsS93.alloc | apply IsS93.drewN | apply IsS93.drew | apply IsS93.set_1 | apply IsS93.set_2) | exact HI522.out)); (case side2 => repeat (first | (with_reducible first | exact HB.out | apply below_alloc | apply pw_below_drewN | apply below_drew1 | refine below_set ?_ (IsS93.ge HI522.out)) | exact HB.out)); rintro e w7 ⟨v527, rfl, ho0, hi, hb, hk⟩; refine ⟨_, rfl, ?_⟩; have HO528 := Aside0.mk (Kd.R_lower ho0 (below_size (by repeat (first | (with_reducible first | exact HB.out | apply below_alloc | apply pw_below_drewN | apply below_drew1 | refine below_set ?_ (IsS93.ge HI522.out)) | exact HB.out)))); replace HB := Aside0.mk (hb); replace HI522 := Aside0.mk (hi); (try clear hb); (try clear hb2); (try clear hk); (try clear hi); (try clear ho0)))
 go_ret2
 exact ⟨_, by first | rfl | (simp [errW_none, errW_some] <;> rfl) | (simp [*, errW_none, errW_some] <;> rfl), by (with_reducible repeat (first | apply Kd.R_alloc | apply Kd.R_drewN | apply Kd.R_drew)); exact HO528.out, by repeat (first | (with_reducible first | exact HB.out | apply below_alloc | apply pw_below_drewN | apply below_drew1 | refine below_set ?_ (IsS93.ge HI522.out)) | exact HB.out)⟩
/-! ### spec_DrawLevelsOf: function 37 -/
def spec_DrawLevelsOf.f (k : Nat) (l0 : List Int) : Option (Int) := (spec_l01New.f k l0).bind fun bt531 => ((spec_l01Place.f bt531.1 bt531.2.1 bt531.2.2 32).bind fun bt535 => (some bt535.1))
theorem spec_DrawLevelsOf.mono : ∀ a0 k, LeO (spec_DrawLevelsOf.f k a0) (spec_DrawLevelsOf.f (k + 1) a0) := by
 intro a0 k
 unfold spec_DrawLevelsOf.f
 repeat' first
   | (with_reducible exact spec_l01New.mono _ _)
   | (with_reducible exact LeO.refl _)
   | (with_reducible exact LeO.none _)
   | (with_reducible refine LeO.ite ?_ ?_)
   | (with_reducible refine LeO.bind ?_ (fun _ => ?_))
   | exact spec_l01New.mono _ _
   | exact LeO.none _
   | refine LeO.ite ?_ ?_
   | refine LeO.bind ?_ (fun _ => ?_)
set_option maxHeartbeats 8000000 in
set_option maxRecDepth 100000 in
theorem spec_DrawLevelsOf.calls (k : Nat) (A0 : Option Addr) (c0 : Nat) (l0 : List Int) (r : Int) (w : World) (hr0 : Kd.C (Kd.int .u8) w A0 l0.length l0) (hc0 : l0.length ≤ c0) (h : spec_DrawLevelsOf.f k l0 = some r) :
  Calls Tryd.prog 37 #[.slice A0 l0.length c0] w fun e w' => e = .returned (.int .i64 r) ∧ Below w.heap.size w w' := by
 have HR0 := Aside0.mk hr0
 have HC0 := Aside0.mk hc0
 clear hr0 hc0
 have HB := Aside0.mk (Below.refl w.heap.size w)
 have H : ((spec_l01New.f k l0).bind fun bt531 => ((spec_l01Place.f bt531.1 bt531.2.1 bt531.2.2 32).bind fun bt535 => (some bt535.1))) = some r := h
 clear h
 replace H := Option.bind_eq_some_iff.mp H
 obtain ⟨⟨t531, t532, t533⟩, A20, H⟩ := H
 replace H : ((spec_l01Place.f t531 t532 t533 32).bind fun bt535 => (some bt535.1)) = some r := H
 have A2 := Aside0.mk A20
 clear A20
 replace H := Option.bind_eq_some_iff.mp H
 obtain ⟨⟨t535, t536, t537⟩, A30, H⟩ := H
 replace H : (some t535) = some r := H
 have A3 := Aside0.mk A30
 clear A30
 obtain rfl := Option.some.inj H
 go_enter Tryd.func37, Tryd.ntmps37
 go_wp2_with (first | ((with_reducible refine gate_callee (f := 59) rfl ?_); refine goesL_ (some 4) rfl rfl Tryd.func59 (by kernel_rfl) rfl #[.slice A0 l0.length c0] rfl (by (try simp only [List.map_toArray, List.map_cons, List.map_nil]); first | done | rfl | (simp only [List.length_drop, List.length_take]; rfl)) ?_; (with_reducible refine (spec_l01New.calls k _ _ l0 t531 t532 t533 w _ ?side1 ?side2 ?side3 A2.out).mono ?_); (case side1 => repeat (first | (with_reducible first | exact HB.out | apply below_alloc | apply pw_below_drewN | apply below_drew1) | exact HB.out)); (case side2 => exact HR0.out); (case side3 => exact HC0.out); rintro e w4 ⟨g534, rfl, hi, hb, hb2⟩; refine ⟨_, rfl, ?_⟩; replace HB := Aside0.mk (hb); have HI534 := Aside0.mk (hi); (try clear hb); (try clear hb2); (try clear hk); (try clear hi)) | ((with_reducible refine gate_callee (f := 68) rfl ?_); refine goesL_ (some 5) rfl rfl Tryd.func68 (by kernel_rfl) rfl #[.pointer (some ⟨g534, 0, none⟩), .int .i64 32] rfl (by (try simp only [List.map_toArray, List.map_cons, List.map_nil]); first | done | rfl | (simp only [List.length_drop, List.length_take]; rfl)) ?_; (with_reducible refine (spec_l01Place.calls g534 t531 t532 t533 32 t535 t536 t537 w _ ?side1 ?side2 A3.out).mono ?_); (case side1 => repeat (first | (with_reducible first | exact HI534.out | apply IsS93.alloc | apply IsS93.drewN | apply IsS93.drew | apply IsS93.set_1 | apply IsS93.set_2) | exact HI534.out)); (case side2 => repeat (first | (with_reducible first | exact HB.out | apply below_alloc | apply pw_below_drewN | apply below_drew1 | refine below_set ?_ (IsS93.ge HI534.out)) | exact HB.out)); rintro e w5 ⟨rfl, hi, hb, hk⟩; refine ⟨_, rfl, ?_⟩; replace HB := Aside0.mk (hb); replace HI534 := Aside0.mk (hi); (try clear hb); (try clear hb2); (try clear hk); (try clear hi)))
 go_ret
 exact ⟨by first | rfl | (simp [errW_none, errW_some] <;> rfl) | (simp [*, errW_none, errW_some] <;> rfl), by repeat (first | (with_reducible first | exact HB.out | apply below_alloc | apply pw_below_drewN | apply below_drew1 | refine below_set ?_ (IsS93.ge HI534.out)) | exact HB.out)⟩
/-! ### laws_sameTexts: function 38 -/
def laws_sameTexts.l0 : Nat → List ByteArray → List ByteArray → Int → Option (Bool)
 | 0, _, _, _ => none
 | k + 1, x0, x1, x5 => if x5 < (x0.length : Int) then (if 0 ≤ x5 then (if x5 < (x1.length : Int) then (if (rdOf ByteArray.empty x0 x5).toList = (rdOf ByteArray.empty x1 x5).toList then (laws_sameTexts.l0 k x0 x1 (wrap64 (x5 + 1))) else (some false)) else (none)) else (none)) else (some true)
def laws_sameTexts.f (k : Nat) (l0 : List ByteArray) (l1 : List ByteArray) : Option (Bool) := if (l0.length : Int) = (l1.length : Int) then (laws_sameTexts.l0 k l0 l1 0) else (some false)
theorem laws_sameTexts.mono_l : ∀ k, (∀ y0 y1 y2, LeO (laws_sameTexts.l0 k y0 y1 y2) (laws_sameTexts.l0 (k + 1) y0 y1 y2))
 | 0 => fun _ _ _ r h => by simp [laws_sameTexts.l0] at h
 | k + 1 => by
  have ih0 := laws_sameTexts.mono_l k
  ·intro y0 y1 y2
   unfold laws_sameTexts.l0
   repeat' first
   | (with_reducible exact ih0 _ _ _)
   | (with_reducible exact LeO.refl _)
   | (with_reducible exact LeO.none _)
   | (with_reducible refine LeO.ite ?_ ?_)
   | (with_reducible refine LeO.bind ?_ (fun _ => ?_))
   | exact ih0 _ _ _
   | exact LeO.none _
   | refine LeO.ite ?_ ?_
   | refine LeO.bind ?_ (fun _ => ?_)
theorem laws_sameTexts.mono : ∀ a0 a1 k, LeO (laws_sameTexts.f k a0 a1) (laws_sameTexts.f (k + 1) a0 a1) := by
 intro a0 a1 k
 have ih0 := laws_sameTexts.mono_l k
 unfold laws_sameTexts.f
 repeat' first
   | (with_reducible exact ih0 _ _ _)
   | (with_reducible exact LeO.refl _)
   | (with_reducible exact LeO.none _)
   | (with_reducible refine LeO.ite ?_ ?_)
   | (with_reducible refine LeO.bind ?_ (fun _ => ?_))
   | exact ih0 _ _ _
   | exact LeO.none _
   | refine LeO.ite ?_ ?_
   | refine LeO.bind ?_ (fun _ => ?_)
set_option maxHeartbeats 8000000 in
set_option maxRecDepth 100000 in
theorem laws_sameTexts.calls (k : Nat) (A0 : Option Addr) (c0 : Nat) (l0 : List ByteArray) (A1 : Option Addr) (c1 : Nat) (l1 : List ByteArray) (r : Bool) (w : World) (hr0 : Kd.C Kd.string w A0 l0.length l0) (hc0 : l0.length ≤ c0) (hr1 : Kd.C Kd.string w A1 l1.length l1) (hc1 : l1.length ≤ c1) (h : laws_sameTexts.f k l0 l1 = some r) :
  Calls Tryd.prog 38 #[.slice A0 l0.length c0, .slice A1 l1.length c1] w fun e w' => e = .returned (.bool r) ∧ Drawn0 w w' := by
 have HR0 := Aside0.mk hr0
 have HC0 := Aside0.mk hc0
 clear hr0 hc0
 have HR1 := Aside0.mk hr1
 have HC1 := Aside0.mk hc1
 clear hr1 hc1
 have H : (if (l0.length : Int) = (l1.length : Int) then (laws_sameTexts.l0 k l0 l1 0) else (some false)) = some r := h
 clear h
 by_cases c3 : (l0.length : Int) = (l1.length : Int)
 ·rw [if_pos c3] at H
  have c3b0 : ((l0.length : Int) == (l1.length : Int)) = true := beq_iff_eq.mpr c3
  have c3b1 : ((l0.length : Int) != (l1.length : Int)) = false := bne_eq_false_iff_eq.mpr c3
  have c3b2 : (l0.length == l1.length) = true := by first | simpa using c3 | (simp at c3 ⊢; omega)
  clear c3
  have H' := Aside0.mk H
  clear H
  go_enter Tryd.func38, Tryd.ntmps38
  go_wp2
  repeat (go_quiet (fail); try go_wp2)
  go_loopg [5] k (fun kq v5 w' => ∃ (x5_1 : Int), v5 = .int .i64 x5_1 ∧ Aside0 (laws_sameTexts.l0 kq l0 l1 x5_1 = some r) ∧ Aside0 (kq ≤ k) ∧ Drawn0 w w')
  case atStart => exact ⟨(0), (by first | rfl | (simp; done) | (simp [*]; done)), H', ⟨Nat.le_refl _⟩, by repeat (first | exact Drawn0.refl _ | apply Drawn0.step)⟩
  case round =>
   clear H'
   try clear c1
   try clear p2
   try clear c3
   try clear c3b0
   try clear c3b1
   try clear c3b2
   obtain ⟨x5_1, rfl, HA, HK1, ⟨m1, rfl⟩⟩ := hrel
   cases gk with
   | zero => exact absurd HA.out (by simp [laws_sameTexts.l0])
   | succ k1 =>
    have H := HA.out
    clear HA
    simp only [laws_sameTexts.l0] at H
    by_cases c4 : x5_1 < (l0.length : Int)
    ·rw [if_pos c4] at H
     have c4b0 : decide (x5_1 < (l0.length : Int)) = true := decide_eq_true c4
     clear c4
     by_cases c5 : 0 ≤ x5_1
     ·rw [if_pos c5] at H
      have c5b0 : decide (0 ≤ x5_1) = true := decide_eq_true c5
      clear c5
      by_cases c6 : x5_1 < (l1.length : Int)
      ·rw [if_pos c6] at H
       have c6b0 : decide (x5_1 < (l1.length : Int)) = true := decide_eq_true c6
       clear c6
       by_cases c7 : (rdOf ByteArray.empty l0 x5_1).toList = (rdOf ByteArray.empty l1 x5_1).toList
       ·rw [if_pos c7] at H
        have c7b0 : ((rdOf ByteArray.empty l0 x5_1).toList == (rdOf ByteArray.empty l1 x5_1).toList) = true := beq_iff_eq.mpr c7
        have c7b1 : ((rdOf ByteArray.empty l0 x5_1).toList != (rdOf ByteArray.empty l1 x5_1).toList) = false := bne_eq_false_iff_eq.mpr c7
        clear c7
        have H' := Aside0.mk H
        clear H
        have p538 : 0 ≤ (x5_1 : Int) := of_decide_eq_true (by first | (with_reducible assumption) | assumption)
        have q538 : x5_1 < (l0.length : Int) := of_decide_eq_true (by first | (with_reducible assumption) | assumption)
        obtain ⟨ad538, e538, hx538_0⟩ := Kd.at_string HR0.out x5_1 p538 q538
        cases e538
        replace p538 := eq_true p538
        replace q538 := eq_true q538
        have p539 : 0 ≤ (x5_1 : Int) := of_decide_eq_true (by first | (with_reducible assumption) | assumption)
        have q539 : x5_1 < (l1.length : Int) := of_decide_eq_true (by first | (with_reducible assumption) | assumption)
        obtain ⟨ad539, e539, hx539_0⟩ := Kd.at_string HR1.out x5_1 p539 q539
        cases e539
        replace p539 := eq_true p539
        replace q539 := eq_true q539
        go_wp2
        repeat (go_quiet (fail); try go_wp2)
        go_roundg k1
        case measure => have := HK1.out; omega
        case rel => exact ⟨(wrap64 (x5_1 + 1)), (by first | rfl | (simp; done) | (simp [*]; done)), H', ⟨by have := HK1.out; omega⟩, by repeat (first | exact Drawn0.refl _ | apply Drawn0.step)⟩
       ·rw [if_neg c7] at H
        have c7b0 : ((rdOf ByteArray.empty l0 x5_1).toList == (rdOf ByteArray.empty l1 x5_1).toList) = false := beq_eq_false_iff_ne.mpr c7
        have c7b1 : ((rdOf ByteArray.empty l0 x5_1).toList != (rdOf ByteArray.empty l1 x5_1).toList) = true := bne_iff_ne.mpr c7
        obtain rfl := Option.some.inj H
        have p538 : 0 ≤ (x5_1 : Int) := of_decide_eq_true (by first | (with_reducible assumption) | assumption)
        have q538 : x5_1 < (l0.length : Int) := of_decide_eq_true (by first | (with_reducible assumption) | assumption)
        obtain ⟨ad538, e538, hx538_0⟩ := Kd.at_string HR0.out x5_1 p538 q538
        cases e538
        replace p538 := eq_true p538
        replace q538 := eq_true q538
        have p539 : 0 ≤ (x5_1 : Int) := of_decide_eq_true (by first | (with_reducible assumption) | assumption)
        have q539 : x5_1 < (l1.length : Int) := of_decide_eq_true (by first | (with_reducible assumption) | assumption)
        obtain ⟨ad539, e539, hx539_0⟩ := Kd.at_string HR1.out x5_1 p539 q539
        cases e539
        replace p539 := eq_true p539
        replace q539 := eq_true q539
        go_wp2
        repeat (go_quiet (fail); try go_wp2)
        go_ret
        exact ⟨by first | rfl | (simp; done) | (simp [*]; done), by repeat (first | exact Drawn0.refl _ | apply Drawn0.step)⟩
      ·rw [if_neg c6] at H
       exact absurd H (by simp)
     ·rw [if_neg c5] at H
      exact absurd H (by simp)
    ·rw [if_neg c4] at H
     have c4b0 : decide (x5_1 < (l0.length : Int)) = false := decide_eq_false c4
     clear c4
     obtain rfl := Option.some.inj H
     go_wp2
     repeat (go_quiet (fail); try go_wp2)
     go_ret
     exact ⟨by first | rfl | (simp; done) | (simp [*]; done), by repeat (first | exact Drawn0.refl _ | apply Drawn0.step)⟩
 ·rw [if_neg c3] at H
  have c3b0 : ((l0.length : Int) == (l1.length : Int)) = false := beq_eq_false_iff_ne.mpr c3
  have c3b1 : ((l0.length : Int) != (l1.length : Int)) = true := bne_iff_ne.mpr c3
  have c3b2 : (l0.length == l1.length) = false := by first | simpa using c3 | (simp at c3 ⊢; omega)
  obtain rfl := Option.some.inj H
  go_enter Tryd.func38, Tryd.ntmps38
  go_wp2
  repeat (go_quiet (fail); try go_wp2)
  go_ret
  exact ⟨by first | rfl | (simp; done) | (simp [*]; done), by repeat (first | exact Drawn0.refl _ | apply Drawn0.step)⟩
/-! ### laws_FnBranches: function 9 -/
def laws_FnBranches.l0 : Nat → List Int → List ByteArray → ByteArray → Int → Option (Bool)
 | 0, _, _, _, _ => none
 | k + 1, x0, x3, x4, x5 => if x5 < (x3.length : Int) then ((impl_BranchOf.f k x3 x5).bind fun t545 => ((impl_LevelsOf.f k (x3.length : Int)).bind fun t548 => (if (t545.length : Int) = t548 then (if 0 ≤ x5 then ((impl_FoldBranch.f k (rdOf ByteArray.empty x3 x5) x5 t545).bind fun t550 => (if t550.toList = x4.toList then (laws_FnBranches.l0 k x0 x3 x4 (wrap64 (x5 + 1))) else (some false))) else (none)) else (some false)))) else ((spec_DrawFoldBranch.f k x0).bind fun bt551 => ((spec_DrawRootOf.f k x0).bind fun t556 => ((spec_DrawBranchOf.f k x0).bind fun bt559 => ((spec_DrawLevelsOf.f k x0).bind fun t563 => (if (x4.size : Int) = 32 then ((impl_FoldBranch.f k bt551.1 bt551.2.1 bt551.2.2).bind fun t564 => ((spec_FoldBranch.f k bt551.1 bt551.2.1 bt551.2.2).bind fun t565 => (if t564.toList = t565.toList then ((impl_RootOf.f k t556).bind fun t566 => ((spec_RootOf.f k t556).bind fun t567 => (if t566.toList = t567.toList then ((impl_BranchOf.f k bt559.1 bt559.2).bind fun t568 => ((spec_BranchOf.f k bt559.1 bt559.2).bind fun t571 => ((laws_sameTexts.f k t568 t571).bind fun t574 => (if t574 = true then ((impl_LevelsOf.f k t563).bind fun t575 => ((spec_LevelsOf.f k t563).bind fun t576 => (some (t575 == t576)))) else (some false))))) else (some false)))) else (some false)))) else (some false))))))
def laws_FnBranches.f (k : Nat) (l0 : List Int) : Option (Bool) := (laws_big.f l0).bind fun t540 => (if t540 = true then (some true) else ((spec_DrawLeaves.f k l0).bind fun t541 => ((impl_RootOf.f k t541).bind fun t544 => (laws_FnBranches.l0 k l0 t541 t544 0))))
theorem laws_FnBranches.mono_l : ∀ k, (∀ y0 y1 y2 y3, LeO (laws_FnBranches.l0 k y0 y1 y2 y3) (laws_FnBranches.l0 (k + 1) y0 y1 y2 y3))
 | 0 => fun _ _ _ _ r h => by simp [laws_FnBranches.l0] at h
 | k + 1 => by
  have ih0 := laws_FnBranches.mono_l k
  ·intro y0 y1 y2 y3
   unfold laws_FnBranches.l0
   repeat' first
   | (with_reducible exact ih0 _ _ _ _)
   | (with_reducible exact impl_BranchOf.mono _ _ _)
   | (with_reducible exact impl_FoldBranch.mono _ _ _ _)
   | (with_reducible exact impl_LevelsOf.mono _ _)
   | (with_reducible exact impl_RootOf.mono _ _)
   | (with_reducible exact laws_sameTexts.mono _ _ _)
   | (with_reducible exact spec_BranchOf.mono _ _ _)
   | (with_reducible exact spec_DrawBranchOf.mono _ _)
   | (with_reducible exact spec_DrawFoldBranch.mono _ _)
   | (with_reducible exact spec_DrawLeaves.mono _ _)
   | (with_reducible exact spec_DrawLevelsOf.mono _ _)
   | (with_reducible exact spec_DrawRootOf.mono _ _)
   | (with_reducible exact spec_FoldBranch.mono _ _ _ _)
   | (with_reducible exact spec_LevelsOf.mono _ _)
   | (with_reducible exact spec_RootOf.mono _ _)
   | (with_reducible exact LeO.refl _)
   | (with_reducible exact LeO.none _)
   | (with_reducible refine LeO.ite ?_ ?_)
   | (with_reducible refine LeO.bind ?_ (fun _ => ?_))
   | exact ih0 _ _ _ _
   | exact impl_BranchOf.mono _ _ _
   | exact impl_FoldBranch.mono _ _ _ _
   | exact impl_LevelsOf.mono _ _
   | exact impl_RootOf.mono _ _
   | exact laws_sameTexts.mono _ _ _
   | exact spec_BranchOf.mono _ _ _
   | exact spec_DrawBranchOf.mono _ _
   | exact spec_DrawFoldBranch.mono _ _
   | exact spec_DrawLeaves.mono _ _
   | exact spec_DrawLevelsOf.mono _ _
   | exact spec_DrawRootOf.mono _ _
   | exact spec_FoldBranch.mono _ _ _ _
   | exact spec_LevelsOf.mono _ _
   | exact spec_RootOf.mono _ _
   | exact LeO.none _
   | refine LeO.ite ?_ ?_
   | refine LeO.bind ?_ (fun _ => ?_)
theorem laws_FnBranches.mono : ∀ a0 k, LeO (laws_FnBranches.f k a0) (laws_FnBranches.f (k + 1) a0) := by
 intro a0 k
 have ih0 := laws_FnBranches.mono_l k
 unfold laws_FnBranches.f
 repeat' first
   | (with_reducible exact ih0 _ _ _ _)
   | (with_reducible exact impl_BranchOf.mono _ _ _)
   | (with_reducible exact impl_FoldBranch.mono _ _ _ _)
   | (with_reducible exact impl_LevelsOf.mono _ _)
   | (with_reducible exact impl_RootOf.mono _ _)
   | (with_reducible exact laws_sameTexts.mono _ _ _)
   | (with_reducible exact spec_BranchOf.mono _ _ _)
   | (with_reducible exact spec_DrawBranchOf.mono _ _)
   | (with_reducible exact spec_DrawFoldBranch.mono _ _)
   | (with_reducible exact spec_DrawLeaves.mono _ _)
   | (with_reducible exact spec_DrawLevelsOf.mono _ _)
   | (with_reducible exact spec_DrawRootOf.mono _ _)
   | (with_reducible exact spec_FoldBranch.mono _ _ _ _)
   | (with_reducible exact spec_LevelsOf.mono _ _)
   | (with_reducible exact spec_RootOf.mono _ _)
   | (with_reducible exact LeO.refl _)
   | (with_reducible exact LeO.none _)
   | (with_reducible refine LeO.ite ?_ ?_)
   | (with_reducible refine LeO.bind ?_ (fun _ => ?_))
   | exact ih0 _ _ _ _
   | exact impl_BranchOf.mono _ _ _
   | exact impl_FoldBranch.mono _ _ _ _
   | exact impl_LevelsOf.mono _ _
   | exact impl_RootOf.mono _ _
   | exact laws_sameTexts.mono _ _ _
   | exact spec_BranchOf.mono _ _ _
   | exact spec_DrawBranchOf.mono _ _
   | exact spec_DrawFoldBranch.mono _ _
   | exact spec_DrawLeaves.mono _ _
   | exact spec_DrawLevelsOf.mono _ _
   | exact spec_DrawRootOf.mono _ _
   | exact spec_FoldBranch.mono _ _ _ _
   | exact spec_LevelsOf.mono _ _
   | exact spec_RootOf.mono _ _
   | exact LeO.none _
   | refine LeO.ite ?_ ?_
   | refine LeO.bind ?_ (fun _ => ?_)
set_option maxHeartbeats 8000000 in
set_option maxRecDepth 100000 in
theorem laws_FnBranches.calls (k : Nat) (A0 : Option Addr) (c0 : Nat) (l0 : List Int) (r : Bool) (w : World) (hr0 : Kd.C (Kd.int .u8) w A0 l0.length l0) (hc0 : l0.length ≤ c0) (hT : Kp.Tab w) (htrue : Aside0 (r = true)) (h : laws_FnBranches.f k l0 = some r) :
  Calls Tryd.prog 9 #[.slice A0 l0.length c0] w fun e w' => e = .returned (.bool r) ∧ Below w.heap.size w w' := by
 have HT := Aside0.mk hT
 clear hT
 have HR0 := Aside0.mk hr0
 have HC0 := Aside0.mk hc0
 clear hr0 hc0
 have HB := Aside0.mk (Below.refl w.heap.size w)
 have H : ((laws_big.f l0).bind fun t540 => (if t540 = true then (some true) else ((spec_DrawLeaves.f k l0).bind fun t541 => ((impl_RootOf.f k t541).bind fun t544 => (laws_FnBranches.l0 k l0 t541 t544 0))))) = some r := h
 clear h
 replace H := Option.bind_eq_some_iff.mp H
 obtain ⟨t540, A20, H⟩ := H
 replace H : (if t540 = true then (some true) else ((spec_DrawLeaves.f k l0).bind fun t541 => ((impl_RootOf.f k t541).bind fun t544 => (laws_FnBranches.l0 k l0 t541 t544 0)))) = some r := H
 have A2 := Aside0.mk A20
 clear A20
 by_cases c3 : t540 = true
 ·subst c3
  have H1 : (some true) = some r := by rw [if_pos rfl] at H; exact H
  clear H
  have H := H1
  clear H1
  obtain rfl := Option.some.inj H
  go_enter Tryd.func9, Tryd.ntmps9
  go_wp2_with (first | ((with_reducible refine gate_callee (f := 26) rfl ?_); refine goesL_ (some 15) rfl rfl Tryd.func26 (by kernel_rfl) rfl #[.slice A0 l0.length c0] rfl (by (try simp only [List.map_toArray, List.map_cons, List.map_nil]); first | done | rfl | (simp only [List.length_drop, List.length_take]; rfl)) ?_; (with_reducible refine (laws_big.calls _ _ l0 true _ ?side1 ?side2 A2.out).mono ?_); (case side1 => repeat (first | exact HR0.out | (with_reducible refine Kd.C_alloc ?_ _) | (with_reducible refine Kd.C_drewN ?_ _) | (with_reducible refine Kd.C_drew ?_))); (case side2 => exact HC0.out); rintro e w' ⟨rfl, ⟨nd, rfl⟩⟩; refine ⟨_, rfl, ?_⟩))
  go_ret
  exact ⟨by first | rfl | (simp [errW_none, errW_some] <;> rfl) | (simp [*, errW_none, errW_some] <;> rfl), bZ HB⟩
 ·replace c3 := Bool.eq_false_iff.mpr c3
  subst c3
  have H1 : ((spec_DrawLeaves.f k l0).bind fun t541 => ((impl_RootOf.f k t541).bind fun t544 => (laws_FnBranches.l0 k l0 t541 t544 0))) = some r := by rw [if_neg (show ¬ (false = true) by decide)] at H; exact H
  clear H
  have H := H1
  clear H1
  replace H := Option.bind_eq_some_iff.mp H
  obtain ⟨t541, A40, H⟩ := H
  replace H : ((impl_RootOf.f k t541).bind fun t544 => (laws_FnBranches.l0 k l0 t541 t544 0)) = some r := H
  have A4 := Aside0.mk A40
  clear A40
  replace H := Option.bind_eq_some_iff.mp H
  obtain ⟨t544, A50, H⟩ := H
  replace H : (laws_FnBranches.l0 k l0 t541 t544 0) = some r := H
  have A5 := Aside0.mk A50
  clear A50
  have H' := Aside0.mk H
  clear H
  go_enter Tryd.func9, Tryd.ntmps9
  go_wp2_with (first | ((with_reducible refine gate_callee (f := 26) rfl ?_); refine goesL_ (some 15) rfl rfl Tryd.func26 (by kernel_rfl) rfl #[.slice A0 l0.length c0] rfl (by (try simp only [List.map_toArray, List.map_cons, List.map_nil]); first | done | rfl | (simp only [List.length_drop, List.length_take]; rfl)) ?_; (with_reducible refine (laws_big.calls _ _ l0 false _ ?side1 ?side2 A2.out).mono ?_); (case side1 => repeat (first | exact HR0.out | (with_reducible refine Kd.C_alloc ?_ _) | (with_reducible refine Kd.C_drewN ?_ _) | (with_reducible refine Kd.C_drew ?_))); (case side2 => exact HC0.out); rintro e w' ⟨rfl, ⟨nd, rfl⟩⟩; refine ⟨_, rfl, ?_⟩) | ((with_reducible refine gate_callee (f := 27) rfl ?_); refine goesL_ (some 17) rfl rfl Tryd.func27 (by kernel_rfl) rfl #[.slice A0 l0.length c0] rfl (by (try simp only [List.map_toArray, List.map_cons, List.map_nil]); first | done | rfl | (simp only [List.length_drop, List.length_take]; rfl)) ?_; (with_reducible refine (spec_DrawLeaves.calls k _ _ l0 t541 _ ?side1 ?side2 A4.out).mono ?_); (case side1 => repeat (first | exact HR0.out | (with_reducible refine Kd.C_alloc ?_ _) | (with_reducible refine Kd.C_drewN ?_ _) | (with_reducible refine Kd.C_drew ?_))); (case side2 => exact HC0.out); rintro e w6 ⟨v542, rfl, ho0, hb⟩; refine ⟨_, rfl, ?_⟩; have HO543 := Aside0.mk (Kd.R_lower ho0 (below_size (bZ HB))); replace HB := bS HB hb; (try clear hb); (try clear hb2); (try clear hk); (try clear hi); (try clear ho0); obtain ⟨Ao7, co7, eo7⟩ := Kd.R_slice HO543.out; subst eo7) | ((with_reducible refine gate_callee (f := 17) rfl ?_); refine goesL_ (some 19) rfl rfl Tryd.func17 (by kernel_rfl) rfl #[.slice Ao7 t541.length co7] rfl (by (try simp only [List.map_toArray, List.map_cons, List.map_nil]); first | done | rfl | (simp only [List.length_drop, List.length_take]; rfl)) ?_; (with_reducible refine (impl_RootOf.calls k _ _ t541 t544 _ ?side1 ?side2 (Kp.Tab.below HT.out (bZ HB)) A5.out).mono ?_); (case side1 => repeat (first | exact (Kd.R_reads' HO543.out).2.2 | (with_reducible refine Kd.C_alloc ?_ _) | (with_reducible refine Kd.C_drewN ?_ _) | (with_reducible refine Kd.C_drew ?_))); (case side2 => exact (Kd.R_reads' HO543.out).2.1); rintro e w8 ⟨rfl, hb⟩; refine ⟨_, rfl, ?_⟩; replace HO543 := Aside0.mk (Kd.R_below (by (with_reducible repeat (first | apply Kd.R_alloc | apply Kd.R_drewN | apply Kd.R_drew)); exact HO543.out) hb); replace HB := bS HB hb; (try clear hb); (try clear hb2); (try clear hk); (try clear hi)))
  go_loopg [5] k (fun kq v5 w' => ∃ (x5_1 : Int), v5 = .int .i64 x5_1 ∧ Aside0 (laws_FnBranches.l0 kq l0 t541 t544 x5_1 = some r) ∧ Aside0 (kq ≤ k) ∧ Aside0 (Kd.R Kd.string 9 w' w.heap.size (fun _ => True) (.slice Ao7 t541.length co7) t541) ∧ Aside0 (Below w.heap.size w w'))
  case atStart => exact ⟨(0), (by first | rfl | (simp; done) | (simp [*]; done)), H', ⟨Nat.le_refl _⟩, ⟨by (with_reducible repeat (first | apply Kd.R_alloc | apply Kd.R_drewN | apply Kd.R_drew)); exact HO543.out⟩, ⟨bZ HB⟩⟩
  case round =>
   clear H'
   try clear c1
   try clear c2
   try clear p2
   try clear c3
   obtain ⟨x5_1, rfl, HA, HK1, HO_3, HB⟩ := hrel
   cases gk with
   | zero => exact absurd HA.out (by simp [laws_FnBranches.l0])
   | succ k1 =>
    have H := HA.out
    clear HA
    simp only [laws_FnBranches.l0] at H
    by_cases c9 : x5_1 < (t541.length : Int)
    ·rw [if_pos c9] at H
     have c9b0 : decide (x5_1 < (t541.length : Int)) = true := decide_eq_true c9
     clear c9
     replace H := Option.bind_eq_some_iff.mp H
     obtain ⟨t545, A100, H⟩ := H
     replace H : ((impl_LevelsOf.f k1 (t541.length : Int)).bind fun t548 => (if (t545.length : Int) = t548 then (if 0 ≤ x5_1 then ((impl_FoldBranch.f k1 (rdOf ByteArray.empty t541 x5_1) x5_1 t545).bind fun t550 => (if t550.toList = t544.toList then (laws_FnBranches.l0 k1 l0 t541 t544 (wrap64 (x5_1 + 1))) else (some false))) else (none)) else (some false))) = some r := H
     have A10 := Aside0.mk A100
     clear A100
     replace H := Option.bind_eq_some_iff.mp H
     obtain ⟨t548, A110, H⟩ := H
     replace H : (if (t545.length : Int) = t548 then (if 0 ≤ x5_1 then ((impl_FoldBranch.f k1 (rdOf ByteArray.empty t541 x5_1) x5_1 t545).bind fun t550 => (if t550.toList = t544.toList then (laws_FnBranches.l0 k1 l0 t541 t544 (wrap64 (x5_1 + 1))) else (some false))) else (none)) else (some false)) = some r := H
     have A11 := Aside0.mk A110
     clear A110
     by_cases c12 : (t545.length : Int) = t548
     ·rw [if_pos c12] at H
      have c12b0 : ((t545.length : Int) == t548) = true := beq_iff_eq.mpr c12
      have c12b1 : ((t545.length : Int) != t548) = false := bne_eq_false_iff_eq.mpr c12
      clear c12
      by_cases c13 : 0 ≤ x5_1
      ·rw [if_pos c13] at H
       have c13b0 : decide (0 ≤ x5_1) = true := decide_eq_true c13
       clear c13
       replace H := Option.bind_eq_some_iff.mp H
       obtain ⟨t550, A140, H⟩ := H
       replace H : (if t550.toList = t544.toList then (laws_FnBranches.l0 k1 l0 t541 t544 (wrap64 (x5_1 + 1))) else (some false)) = some r := H
       have A14 := Aside0.mk A140
       clear A140
       by_cases c15 : t550.toList = t544.toList
       ·rw [if_pos c15] at H
        have c15b0 : (t550.toList == t544.toList) = true := beq_iff_eq.mpr c15
        have c15b1 : (t550.toList != t544.toList) = false := bne_eq_false_iff_eq.mpr c15
        clear c15
        have H' := Aside0.mk H
        clear H
        go_wp2_with (first | ((with_reducible refine gate_callee (f := 23) rfl ?_); refine goesL_ (some 28) rfl rfl Tryd.func23 (by kernel_rfl) rfl #[.slice Ao7 t541.length co7, .int .i64 x5_1] rfl (by (try simp only [List.map_toArray, List.map_cons, List.map_nil]); first | done | rfl | (simp only [List.length_drop, List.length_take]; rfl)) ?_; (with_reducible refine (impl_BranchOf.calls k1 _ _ t541 x5_1 t545 _ ?side1 ?side2 (Kp.Tab.below HT.out (bZ HB)) A10.out).mono ?_); (case side1 => repeat (first | exact (Kd.R_reads' HO_3.out).2.2 | (with_reducible refine Kd.C_alloc ?_ _) | (with_reducible refine Kd.C_drewN ?_ _) | (with_reducible refine Kd.C_drew ?_))); (case side2 => exact (Kd.R_reads' HO_3.out).2.1); rintro e w16 ⟨v546, rfl, ho0, hb⟩; refine ⟨_, rfl, ?_⟩; have HO547 := Aside0.mk (Kd.R_lower (Kd.R_new' ho0 (Kd.R_lt (by (with_reducible repeat (first | apply Kd.R_alloc | apply Kd.R_drewN | apply Kd.R_drew)); exact HO_3.out))) (below_size (bZ HB))); replace HO_3 := Aside0.mk (Kd.R_elder' (by (with_reducible repeat (first | apply Kd.R_alloc | apply Kd.R_drewN | apply Kd.R_drew)); exact HO_3.out) (Kd.R_base ho0) hb); replace HB := bS HB hb; (try clear hb); (try clear hb2); (try clear hk); (try clear hi); (try clear ho0); obtain ⟨Ao17, co17, eo17⟩ := Kd.R_slice HO547.out; subst eo17) | ((with_reducible refine gate_callee (f := 33) rfl ?_); refine goesL_ (some 33) rfl rfl Tryd.func33 (by kernel_rfl) rfl #[.int .i64 (t541.length : Int)] rfl (by (try simp only [List.map_toArray, List.map_cons, List.map_nil]); first | done | rfl | (simp only [List.length_drop, List.length_take]; rfl)) ?_; (with_reducible refine (impl_LevelsOf.calls k1 (t541.length : Int) t548 _ A11.out).mono ?_); rintro e w' ⟨rfl, ⟨nd, rfl⟩⟩; refine ⟨_, rfl, ?_⟩; have p549 : 0 ≤ (x5_1 : Int) := of_decide_eq_true (by first | (with_reducible assumption) | assumption); have q549 : x5_1 < (t541.length : Int) := of_decide_eq_true (by first | (with_reducible assumption) | assumption); obtain ⟨ad549, e549, hx549_0⟩ := Kd.at_string (Kd.R_reads' HO_3.out).2.2 x5_1 p549 q549; cases e549; replace p549 := eq_true p549; replace q549 := eq_true q549) | (go_at_call 14; (with_reducible refine (impl_FoldBranch.calls k1 (rdOf ByteArray.empty t541 x5_1) x5_1 _ _ t545 t550 _ ?side1 ?side2 (Kp.Tab.below HT.out (bZ HB)) A14.out).mono ?_); (case side1 => repeat (first | exact (Kd.R_reads' HO547.out).2.2 | (with_reducible refine Kd.C_alloc ?_ _) | (with_reducible refine Kd.C_drewN ?_ _) | (with_reducible refine Kd.C_drew ?_))); (case side2 => exact (Kd.R_reads' HO547.out).2.1); rintro e w18 ⟨rfl, hb⟩; replace HO_3 := Aside0.mk (Kd.R_below (by (with_reducible repeat (first | apply Kd.R_alloc | apply Kd.R_drewN | apply Kd.R_drew)); exact HO_3.out) hb); replace HO547 := Aside0.mk (Kd.R_below (by (with_reducible repeat (first | apply Kd.R_alloc | apply Kd.R_drewN | apply Kd.R_drew)); exact HO547.out) hb); replace HB := bS HB hb; (try clear hb); (try clear hb2); (try clear hk); (try clear hi)))
        go_roundg k1
        case measure => have := HK1.out; omega
        case rel => exact ⟨(wrap64 (x5_1 + 1)), (by first | rfl | (simp; done) | (simp [*]; done)), H', ⟨by have := HK1.out; omega⟩, ⟨by (with_reducible repeat (first | apply Kd.R_alloc | apply Kd.R_drewN | apply Kd.R_drew)); exact Kd.R_mono HO_3.out (fun _ hk => trivial)⟩, ⟨bZ HB⟩⟩
       ·rw [if_neg c15] at H
        have c15b0 : (t550.toList == t544.toList) = false := beq_eq_false_iff_ne.mpr c15
        have c15b1 : (t550.toList != t544.toList) = true := bne_iff_ne.mpr c15
        exact absurd (Option.some.inj H) (by rw [htrue.out]; exact Bool.false_ne_true)
      ·rw [if_neg c13] at H
       exact absurd H (by simp)
     ·rw [if_neg c12] at H
      have c12b0 : ((t545.length : Int) == t548) = false := beq_eq_false_iff_ne.mpr c12
      have c12b1 : ((t545.length : Int) != t548) = true := bne_iff_ne.mpr c12
      exact absurd (Option.some.inj H) (by rw [htrue.out]; exact Bool.false_ne_true)
    ·rw [if_neg c9] at H
     have c9b0 : decide (x5_1 < (t541.length : Int)) = false := decide_eq_false c9
     clear c9
     replace H := Option.bind_eq_some_iff.mp H
     obtain ⟨⟨t551, t552, t553⟩, A190, H⟩ := H
     replace H : ((spec_DrawRootOf.f k1 l0).bind fun t556 => ((spec_DrawBranchOf.f k1 l0).bind fun bt559 => ((spec_DrawLevelsOf.f k1 l0).bind fun t563 => (if (t544.size : Int) = 32 then ((impl_FoldBranch.f k1 t551 t552 t553).bind fun t564 => ((spec_FoldBranch.f k1 t551 t552 t553).bind fun t565 => (if t564.toList = t565.toList then ((impl_RootOf.f k1 t556).bind fun t566 => ((spec_RootOf.f k1 t556).bind fun t567 => (if t566.toList = t567.toList then ((impl_BranchOf.f k1 bt559.1 bt559.2).bind fun t568 => ((spec_BranchOf.f k1 bt559.1 bt559.2).bind fun t571 => ((laws_sameTexts.f k1 t568 t571).bind fun t574 => (if t574 = true then ((impl_LevelsOf.f k1 t563).bind fun t575 => ((spec_LevelsOf.f k1 t563).bind fun t576 => (some (t575 == t576)))) else (some false))))) else (some false)))) else (some false)))) else (some false))))) = some r := H
     have A19 := Aside0.mk A190
     clear A190
     replace H := Option.bind_eq_some_iff.mp H
     obtain ⟨t556, A200, H⟩ := H
     replace H : ((spec_DrawBranchOf.f k1 l0).bind fun bt559 => ((spec_DrawLevelsOf.f k1 l0).bind fun t563 => (if (t544.size : Int) = 32 then ((impl_FoldBranch.f k1 t551 t552 t553).bind fun t564 => ((spec_FoldBranch.f k1 t551 t552 t553).bind fun t565 => (if t564.toList = t565.toList then ((impl_RootOf.f k1 t556).bind fun t566 => ((spec_RootOf.f k1 t556).bind fun t567 => (if t566.toList = t567.toList then ((impl_BranchOf.f k1 bt559.1 bt559.2).bind fun t568 => ((spec_BranchOf.f k1 bt559.1 bt559.2).bind fun t571 => ((laws_sameTexts.f k1 t568 t571).bind fun t574 => (if t574 = true then ((impl_LevelsOf.f k1 t563).bind fun t575 => ((spec_LevelsOf.f k1 t563).bind fun t576 => (some (t575 == t576)))) else (some false))))) else (some false)))) else (some false)))) else (some false)))) = some r := H
     have A20 := Aside0.mk A200
     clear A200
     replace H := Option.bind_eq_some_iff.mp H
     obtain ⟨⟨t559, t560⟩, A210, H⟩ := H
     replace H : ((spec_DrawLevelsOf.f k1 l0).bind fun t563 => (if (t544.size : Int) = 32 then ((impl_FoldBranch.f k1 t551 t552 t553).bind fun t564 => ((spec_FoldBranch.f k1 t551 t552 t553).bind fun t565 => (if t564.toList = t565.toList then ((impl_RootOf.f k1 t556).bind fun t566 => ((spec_RootOf.f k1 t556).bind fun t567 => (if t566.toList = t567.toList then ((impl_BranchOf.f k1 t559 t560).bind fun t568 => ((spec_BranchOf.f k1 t559 t560).bind fun t571 => ((laws_sameTexts.f k1 t568 t571).bind fun t574 => (if t574 = true then ((impl_LevelsOf.f k1 t563).bind fun t575 => ((spec_LevelsOf.f k1 t563).bind fun t576 => (some (t575 == t576)))) else (some false))))) else (some false)))) else (some false)))) else (some false))) = some r := H
     have A21 := Aside0.mk A210
     clear A210
     replace H := Option.bind_eq_some_iff.mp H
     obtain ⟨t563, A220, H⟩ := H
     replace H : (if (t544.size : Int) = 32 then ((impl_FoldBranch.f k1 t551 t552 t553).bind fun t564 => ((spec_FoldBranch.f k1 t551 t552 t553).bind fun t565 => (if t564.toList = t565.toList then ((impl_RootOf.f k1 t556).bind fun t566 => ((spec_RootOf.f k1 t556).bind fun t567 => (if t566.toList = t567.toList then ((impl_BranchOf.f k1 t559 t560).bind fun t568 => ((spec_BranchOf.f k1 t559 t560).bind fun t571 => ((laws_sameTexts.f k1 t568 t571).bind fun t574 => (if t574 = true then ((impl_LevelsOf.f k1 t563).bind fun t575 => ((spec_LevelsOf.f k1 t563).bind fun t576 => (some (t575 == t576)))) else (some false))))) else (some false)))) else (some false)))) else (some false)) = some r := H
     have A22 := Aside0.mk A220
     clear A220
     by_cases c23 : (t544.size : Int) = 32
     ·rw [if_pos c23] at H
      have c23b0 : ((t544.size : Int) == 32) = true := beq_iff_eq.mpr c23
      have c23b1 : ((t544.size : Int) != 32) = false := bne_eq_false_iff_eq.mpr c23
      clear c23
      replace H := Option.bind_eq_some_iff.mp H
      obtain ⟨t564, A240, H⟩ := H
      replace H : ((spec_FoldBranch.f k1 t551 t552 t553).bind fun t565 => (if t564.toList = t565.toList then ((impl_RootOf.f k1 t556).bind fun t566 => ((spec_RootOf.f k1 t556).bind fun t567 => (if t566.toList = t567.toList then ((impl_BranchOf.f k1 t559 t560).bind fun t568 => ((spec_BranchOf.f k1 t559 t560).bind fun t571 => ((laws_sameTexts.f k1 t568 t571).bind fun t574 => (if t574 = true then ((impl_LevelsOf.f k1 t563).bind fun t575 => ((spec_LevelsOf.f k1 t563).bind fun t576 => (some (t575 == t576)))) else (some false))))) else (some false)))) else (some false))) = some r := H
      have A24 := Aside0.mk A240
      clear A240
      replace H := Option.bind_eq_some_iff.mp H
      obtain ⟨t565, A250, H⟩ := H
      replace H : (if t564.toList = t565.toList then ((impl_RootOf.f k1 t556).bind fun t566 => ((spec_RootOf.f k1 t556).bind fun t567 => (if t566.toList = t567.toList then ((impl_BranchOf.f k1 t559 t560).bind fun t568 => ((spec_BranchOf.f k1 t559 t560).bind fun t571 => ((laws_sameTexts.f k1 t568 t571).bind fun t574 => (if t574 = true then ((impl_LevelsOf.f k1 t563).bind fun t575 => ((spec_LevelsOf.f k1 t563).bind fun t576 => (some (t575 == t576)))) else (some false))))) else (some false)))) else (some false)) = some r := H
      have A25 := Aside0.mk A250
      clear A250
      by_cases c26 : t564.toList = t565.toList
      ·rw [if_pos c26] at H
       have c26b0 : (t564.toList == t565.toList) = true := beq_iff_eq.mpr c26
       have c26b1 : (t564.toList != t565.toList) = false := bne_eq_false_iff_eq.mpr c26
       clear c26
       replace H := Option.bind_eq_some_iff.mp H
       obtain ⟨t566, A270, H⟩ := H
       replace H : ((spec_RootOf.f k1 t556).bind fun t567 => (if t566.toList = t567.toList then ((impl_BranchOf.f k1 t559 t560).bind fun t568 => ((spec_BranchOf.f k1 t559 t560).bind fun t571 => ((laws_sameTexts.f k1 t568 t571).bind fun t574 => (if t574 = true then ((impl_LevelsOf.f k1 t563).bind fun t575 => ((spec_LevelsOf.f k1 t563).bind fun t576 => (some (t575 == t576)))) else (some false))))) else (some false))) = some r := H
       have A27 := Aside0.mk A270
       clear A270
       replace H := Option.bind_eq_some_iff.mp H
       obtain ⟨t567, A280, H⟩ := H
       replace H : (if t566.toList = t567.toList then ((impl_BranchOf.f k1 t559 t560).bind fun t568 => ((spec_BranchOf.f k1 t559 t560).bind fun t571 => ((laws_sameTexts.f k1 t568 t571).bind fun t574 => (if t574 = true then ((impl_LevelsOf.f k1 t563).bind fun t575 => ((spec_LevelsOf.f k1 t563).bind fun t576 => (some (t575 == t576)))) else (some false))))) else (some false)) = some r := H
       have A28 := Aside0.mk A280
       clear A280
       by_cases c29 : t566.toList = t567.toList
       ·rw [if_pos c29] at H
        have c29b0 : (t566.toList == t567.toList) = true := beq_iff_eq.mpr c29
        have c29b1 : (t566.toList != t567.toList) = false := bne_eq_false_iff_eq.mpr c29
        clear c29
        replace H := Option.bind_eq_some_iff.mp H
        obtain ⟨t568, A300, H⟩ := H
        replace H : ((spec_BranchOf.f k1 t559 t560).bind fun t571 => ((laws_sameTexts.f k1 t568 t571).bind fun t574 => (if t574 = true then ((impl_LevelsOf.f k1 t563).bind fun t575 => ((spec_LevelsOf.f k1 t563).bind fun t576 => (some (t575 == t576)))) else (some false)))) = some r := H
        have A30 := Aside0.mk A300
        clear A300
        replace H := Option.bind_eq_some_iff.mp H
        obtain ⟨t571, A310, H⟩ := H
        replace H : ((laws_sameTexts.f k1 t568 t571).bind fun t574 => (if t574 = true then ((impl_LevelsOf.f k1 t563).bind fun t575 => ((spec_LevelsOf.f k1 t563).bind fun t576 => (some (t575 == t576)))) else (some false))) = some r := H
        have A31 := Aside0.mk A310
        clear A310
        replace H := Option.bind_eq_some_iff.mp H
        obtain ⟨t574, A320, H⟩ := H
        replace H : (if t574 = true then ((impl_LevelsOf.f k1 t563).bind fun t575 => ((spec_LevelsOf.f k1 t563).bind fun t576 => (some (t575 == t576)))) else (some false)) = some r := H
        have A32 := Aside0.mk A320
        clear A320
        by_cases c33 : t574 = true
        ·subst c33
         have H1 : ((impl_LevelsOf.f k1 t563).bind fun t575 => ((spec_LevelsOf.f k1 t563).bind fun t576 => (some (t575 == t576)))) = some r := by rw [if_pos rfl] at H; exact H
         clear H
         have H := H1
         clear H1
         replace H := Option.bind_eq_some_iff.mp H
         obtain ⟨t575, A340, H⟩ := H
         replace H : ((spec_LevelsOf.f k1 t563).bind fun t576 => (some (t575 == t576))) = some r := H
         have A34 := Aside0.mk A340
         clear A340
         replace H := Option.bind_eq_some_iff.mp H
         obtain ⟨t576, A350, H⟩ := H
         replace H : (some (t575 == t576)) = some r := H
         have A35 := Aside0.mk A350
         clear A350
         obtain rfl := Option.some.inj H
         go_wp2_with (first | ((with_reducible refine gate_callee (f := 34) rfl ?_); refine goesL_ (some 48) rfl rfl Tryd.func34 (by kernel_rfl) rfl #[.slice A0 l0.length c0] rfl (by (try simp only [List.map_toArray, List.map_cons, List.map_nil]); first | done | rfl | (simp only [List.length_drop, List.length_take]; rfl)) ?_; (with_reducible refine (spec_DrawFoldBranch.calls k1 _ _ l0 t551 t552 t553 _ ?side1 ?side2 A19.out).mono ?_); (case side1 => repeat (first | exact (Kd.C_below HR0.out HB.out) | (with_reducible refine Kd.C_alloc ?_ _) | (with_reducible refine Kd.C_drewN ?_ _) | (with_reducible refine Kd.C_drew ?_))); (case side2 => exact HC0.out); rintro e w36 ⟨v554, rfl, ho0, hb⟩; refine ⟨_, rfl, ?_⟩; have HO555 := Aside0.mk (Kd.R_lower (Kd.R_new' ho0 (Kd.R_lt (by (with_reducible repeat (first | apply Kd.R_alloc | apply Kd.R_drewN | apply Kd.R_drew)); exact HO_3.out))) (below_size (bZ HB))); replace HO_3 := Aside0.mk (Kd.R_elder' (by (with_reducible repeat (first | apply Kd.R_alloc | apply Kd.R_drewN | apply Kd.R_drew)); exact HO_3.out) (Kd.R_base ho0) hb); replace HB := bS HB hb; (try clear hb); (try clear hb2); (try clear hk); (try clear hi); (try clear ho0)) | ((with_reducible refine gate_callee (f := 35) rfl ?_); refine goesL_ (some 53) rfl rfl Tryd.func35 (by kernel_rfl) rfl #[.slice A0 l0.length c0] rfl (by (try simp only [List.map_toArray, List.map_cons, List.map_nil]); first | done | rfl | (simp only [List.length_drop, List.length_take]; rfl)) ?_; (with_reducible refine (spec_DrawRootOf.calls k1 _ _ l0 t556 _ ?side1 ?side2 A20.out).mono ?_); (case side1 => repeat (first | exact (Kd.C_below HR0.out HB.out) | (with_reducible refine Kd.C_alloc ?_ _) | (with_reducible refine Kd.C_drewN ?_ _) | (with_reducible refine Kd.C_drew ?_))); (case side2 => exact HC0.out); rintro e w37 ⟨v557, rfl, ho0, hb⟩; refine ⟨_, rfl, ?_⟩; have HO558 := Aside0.mk (Kd.R_lower (Kd.R_new' (Kd.R_new' ho0 (Kd.R_lt (by (with_reducible repeat (first | apply Kd.R_alloc | apply Kd.R_drewN | apply Kd.R_drew)); exact HO_3.out))) (Kd.R_lt (by (with_reducible repeat (first | apply Kd.R_alloc | apply Kd.R_drewN | apply Kd.R_drew)); exact HO555.out))) (below_size (bZ HB))); replace HO_3 := Aside0.mk (Kd.R_elder' (by (with_reducible repeat (first | apply Kd.R_alloc | apply Kd.R_drewN | apply Kd.R_drew)); exact HO_3.out) (Kd.R_base ho0) hb); replace HO555 := Aside0.mk (Kd.R_elder' (by (with_reducible repeat (first | apply Kd.R_alloc | apply Kd.R_drewN | apply Kd.R_drew)); exact HO555.out) (Kd.R_base ho0) hb); replace HB := bS HB hb; (try clear hb); (try clear hb2); (try clear hk); (try clear hi); (try clear ho0)) | ((with_reducible refine gate_callee (f := 36) rfl ?_); refine goesL_ (some 56) rfl rfl Tryd.func36 (by kernel_rfl) rfl #[.slice A0 l0.length c0] rfl (by (try simp only [List.map_toArray, List.map_cons, List.map_nil]); first | done | rfl | (simp only [List.length_drop, List.length_take]; rfl)) ?_; (with_reducible refine (spec_DrawBranchOf.calls k1 _ _ l0 t559 t560 _ ?side1 ?side2 A21.out).mono ?_); (case side1 => repeat (first | exact (Kd.C_below HR0.out HB.out) | (with_reducible refine Kd.C_alloc ?_ _) | (with_reducible refine Kd.C_drewN ?_ _) | (with_reducible refine Kd.C_drew ?_))); (case side2 => exact HC0.out); rintro e w38 ⟨v561, rfl, ho0, hb⟩; refine ⟨_, rfl, ?_⟩; have HO562 := Aside0.mk (Kd.R_lower (Kd.R_new' (Kd.R_new' (Kd.R_new' ho0 (Kd.R_lt (by (with_reducible repeat (first | apply Kd.R_alloc | apply Kd.R_drewN | apply Kd.R_drew)); exact HO_3.out))) (Kd.R_lt (by (with_reducible repeat (first | apply Kd.R_alloc | apply Kd.R_drewN | apply Kd.R_drew)); exact HO555.out))) (Kd.R_lt (by (with_reducible repeat (first | apply Kd.R_alloc | apply Kd.R_drewN | apply Kd.R_drew)); exact HO558.out))) (below_size (bZ HB))); replace HO_3 := Aside0.mk (Kd.R_elder' (by (with_reducible repeat (first | apply Kd.R_alloc | apply Kd.R_drewN | apply Kd.R_drew)); exact HO_3.out) (Kd.R_base ho0) hb); replace HO555 := Aside0.mk (Kd.R_elder' (by (with_reducible repeat (first | apply Kd.R_alloc | apply Kd.R_drewN | apply Kd.R_drew)); exact HO555.out) (Kd.R_base ho0) hb); replace HO558 := Aside0.mk (Kd.R_elder' (by (with_reducible repeat (first | apply Kd.R_alloc | apply Kd.R_drewN | apply Kd.R_drew)); exact HO558.out) (Kd.R_base ho0) hb); replace HB := bS HB hb; (try clear hb); (try clear hb2); (try clear hk); (try clear hi); (try clear ho0)) | ((with_reducible refine gate_callee (f := 37) rfl ?_); refine goesL_ (some 60) rfl rfl Tryd.func37 (by kernel_rfl) rfl #[.slice A0 l0.length c0] rfl (by (try simp only [List.map_toArray, List.map_cons, List.map_nil]); first | done | rfl | (simp only [List.length_drop, List.length_take]; rfl)) ?_; (with_reducible refine (spec_DrawLevelsOf.calls k1 _ _ l0 t563 _ ?side1 ?side2 A22.out).mono ?_); (case side1 => repeat (first | exact (Kd.C_below HR0.out HB.out) | (with_reducible refine Kd.C_alloc ?_ _) | (with_reducible refine Kd.C_drewN ?_ _) | (with_reducible refine Kd.C_drew ?_))); (case side2 => exact HC0.out); rintro e w39 ⟨rfl, hb⟩; refine ⟨_, rfl, ?_⟩; replace HO_3 := Aside0.mk (Kd.R_below (by (with_reducible repeat (first | apply Kd.R_alloc | apply Kd.R_drewN | apply Kd.R_drew)); exact HO_3.out) hb); replace HO555 := Aside0.mk (Kd.R_below (by (with_reducible repeat (first | apply Kd.R_alloc | apply Kd.R_drewN | apply Kd.R_drew)); exact HO555.out) hb); replace HO558 := Aside0.mk (Kd.R_below (by (with_reducible repeat (first | apply Kd.R_alloc | apply Kd.R_drewN | apply Kd.R_drew)); exact HO558.out) hb); replace HO562 := Aside0.mk (Kd.R_below (by (with_reducible repeat (first | apply Kd.R_alloc | apply Kd.R_drewN | apply Kd.R_drew)); exact HO562.out) hb); replace HB := bS HB hb; (try clear hb); (try clear hb2); (try clear hk); (try clear hi); obtain ⟨Ao40, co40, eo40⟩ := Kd.R_slice HO555.out; subst eo40) | (go_at_call 14; (with_reducible refine (impl_FoldBranch.calls k1 t551 t552 _ _ t553 t564 _ ?side1 ?side2 (Kp.Tab.below HT.out (bZ HB)) A24.out).mono ?_); (case side1 => repeat (first | exact (Kd.R_reads' HO555.out).2.2 | (with_reducible refine Kd.C_alloc ?_ _) | (with_reducible refine Kd.C_drewN ?_ _) | (with_reducible refine Kd.C_drew ?_))); (case side2 => exact (Kd.R_reads' HO555.out).2.1); rintro e w41 ⟨rfl, hb⟩; replace HO_3 := Aside0.mk (Kd.R_below (by (with_reducible repeat (first | apply Kd.R_alloc | apply Kd.R_drewN | apply Kd.R_drew)); exact HO_3.out) hb); replace HO555 := Aside0.mk (Kd.R_below (by (with_reducible repeat (first | apply Kd.R_alloc | apply Kd.R_drewN | apply Kd.R_drew)); exact HO555.out) hb); replace HO558 := Aside0.mk (Kd.R_below (by (with_reducible repeat (first | apply Kd.R_alloc | apply Kd.R_drewN | apply Kd.R_drew)); exact HO558.out) hb); replace HO562 := Aside0.mk (Kd.R_below (by (with_reducible repeat (first | apply Kd.R_alloc | apply Kd.R_drewN | apply Kd.R_drew)); exact HO562.out) hb); replace HB := bS HB hb; (try clear hb); (try clear hb2); (try clear hk); (try clear hi)) | (go_at_call 12; (with_reducible refine (spec_FoldBranch.calls k1 t551 t552 _ _ t553 t565 _ ?side1 ?side2 A25.out).mono ?_); (case side1 => repeat (first | exact (Kd.R_reads' HO555.out).2.2 | (with_reducible refine Kd.C_alloc ?_ _) | (with_reducible refine Kd.C_drewN ?_ _) | (with_reducible refine Kd.C_drew ?_))); (case side2 => exact (Kd.R_reads' HO555.out).2.1); rintro e w42 ⟨rfl, hb⟩; replace HO_3 := Aside0.mk (Kd.R_below (by (with_reducible repeat (first | apply Kd.R_alloc | apply Kd.R_drewN | apply Kd.R_drew)); exact HO_3.out) hb); replace HO555 := Aside0.mk (Kd.R_below (by (with_reducible repeat (first | apply Kd.R_alloc | apply Kd.R_drewN | apply Kd.R_drew)); exact HO555.out) hb); replace HO558 := Aside0.mk (Kd.R_below (by (with_reducible repeat (first | apply Kd.R_alloc | apply Kd.R_drewN | apply Kd.R_drew)); exact HO558.out) hb); replace HO562 := Aside0.mk (Kd.R_below (by (with_reducible repeat (first | apply Kd.R_alloc | apply Kd.R_drewN | apply Kd.R_drew)); exact HO562.out) hb); replace HB := bS HB hb; (try clear hb); (try clear hb2); (try clear hk); (try clear hi); obtain ⟨Ao43, co43, eo43⟩ := Kd.R_slice HO558.out; subst eo43) | (go_at_call 17; (with_reducible refine (impl_RootOf.calls k1 _ _ t556 t566 _ ?side1 ?side2 (Kp.Tab.below HT.out (bZ HB)) A27.out).mono ?_); (case side1 => repeat (first | exact (Kd.R_reads' HO558.out).2.2 | (with_reducible refine Kd.C_alloc ?_ _) | (with_reducible refine Kd.C_drewN ?_ _) | (with_reducible refine Kd.C_drew ?_))); (case side2 => exact (Kd.R_reads' HO558.out).2.1); rintro e w44 ⟨rfl, hb⟩; replace HO_3 := Aside0.mk (Kd.R_below (by (with_reducible repeat (first | apply Kd.R_alloc | apply Kd.R_drewN | apply Kd.R_drew)); exact HO_3.out) hb); replace HO555 := Aside0.mk (Kd.R_below (by (with_reducible repeat (first | apply Kd.R_alloc | apply Kd.R_drewN | apply Kd.R_drew)); exact HO555.out) hb); replace HO558 := Aside0.mk (Kd.R_below (by (with_reducible repeat (first | apply Kd.R_alloc | apply Kd.R_drewN | apply Kd.R_drew)); exact HO558.out) hb); replace HO562 := Aside0.mk (Kd.R_below (by (with_reducible repeat (first | apply Kd.R_alloc | apply Kd.R_drewN | apply Kd.R_drew)); exact HO562.out) hb); replace HB := bS HB hb; (try clear hb); (try clear hb2); (try clear hk); (try clear hi)) | (go_at_call 16; (with_reducible refine (spec_RootOf.calls k1 _ _ t556 t567 _ ?side1 ?side2 A28.out).mono ?_); (case side1 => repeat (first | exact (Kd.R_reads' HO558.out).2.2 | (with_reducible refine Kd.C_alloc ?_ _) | (with_reducible refine Kd.C_drewN ?_ _) | (with_reducible refine Kd.C_drew ?_))); (case side2 => exact (Kd.R_reads' HO558.out).2.1); rintro e w45 ⟨rfl, hb⟩; replace HO_3 := Aside0.mk (Kd.R_below (by (with_reducible repeat (first | apply Kd.R_alloc | apply Kd.R_drewN | apply Kd.R_drew)); exact HO_3.out) hb); replace HO555 := Aside0.mk (Kd.R_below (by (with_reducible repeat (first | apply Kd.R_alloc | apply Kd.R_drewN | apply Kd.R_drew)); exact HO555.out) hb); replace HO558 := Aside0.mk (Kd.R_below (by (with_reducible repeat (first | apply Kd.R_alloc | apply Kd.R_drewN | apply Kd.R_drew)); exact HO558.out) hb); replace HO562 := Aside0.mk (Kd.R_below (by (with_reducible repeat (first | apply Kd.R_alloc | apply Kd.R_drewN | apply Kd.R_drew)); exact HO562.out) hb); replace HB := bS HB hb; (try clear hb); (try clear hb2); (try clear hk); (try clear hi); obtain ⟨Ao46, co46, eo46⟩ := Kd.R_slice HO562.out; subst eo46) | (go_at_call 23; (with_reducible refine (impl_BranchOf.calls k1 _ _ t559 t560 t568 _ ?side1 ?side2 (Kp.Tab.below HT.out (bZ HB)) A30.out).mono ?_); (case side1 => repeat (first | exact (Kd.R_reads' HO562.out).2.2 | (with_reducible refine Kd.C_alloc ?_ _) | (with_reducible refine Kd.C_drewN ?_ _) | (with_reducible refine Kd.C_drew ?_))); (case side2 => exact (Kd.R_reads' HO562.out).2.1); rintro e w47 ⟨v569, rfl, ho0, hb⟩; have HO570 := Aside0.mk (Kd.R_lower (Kd.R_new' (Kd.R_new' (Kd.R_new' (Kd.R_new' ho0 (Kd.R_lt (by (with_reducible repeat (first | apply Kd.R_alloc | apply Kd.R_drewN | apply Kd.R_drew)); exact HO_3.out))) (Kd.R_lt (by (with_reducible repeat (first | apply Kd.R_alloc | apply Kd.R_drewN | apply Kd.R_drew)); exact HO555.out))) (Kd.R_lt (by (with_reducible repeat (first | apply Kd.R_alloc | apply Kd.R_drewN | apply Kd.R_drew)); exact HO558.out))) (Kd.R_lt (by (with_reducible repeat (first | apply Kd.R_alloc | apply Kd.R_drewN | apply Kd.R_drew)); exact HO562.out))) (below_size (bZ HB))); replace HO_3 := Aside0.mk (Kd.R_elder' (by (with_reducible repeat (first | apply Kd.R_alloc | apply Kd.R_drewN | apply Kd.R_drew)); exact HO_3.out) (Kd.R_base ho0) hb); replace HO555 := Aside0.mk (Kd.R_elder' (by (with_reducible repeat (first | apply Kd.R_alloc | apply Kd.R_drewN | apply Kd.R_drew)); exact HO555.out) (Kd.R_base ho0) hb); replace HO558 := Aside0.mk (Kd.R_elder' (by (with_reducible repeat (first | apply Kd.R_alloc | apply Kd.R_drewN | apply Kd.R_drew)); exact HO558.out) (Kd.R_base ho0) hb); replace HO562 := Aside0.mk (Kd.R_elder' (by (with_reducible repeat (first | apply Kd.R_alloc | apply Kd.R_drewN | apply Kd.R_drew)); exact HO562.out) (Kd.R_base ho0) hb); replace HB := bS HB hb; (try clear hb); (try clear hb2); (try clear hk); (try clear hi); (try clear ho0)) | (go_at_call 22; (with_reducible refine (spec_BranchOf.calls k1 _ _ t559 t560 t571 _ ?side1 ?side2 A31.out).mono ?_); (case side1 => repeat (first | exact (Kd.R_reads' HO562.out).2.2 | (with_reducible refine Kd.C_alloc ?_ _) | (with_reducible refine Kd.C_drewN ?_ _) | (with_reducible refine Kd.C_drew ?_))); (case side2 => exact (Kd.R_reads' HO562.out).2.1); rintro e w48 ⟨v572, rfl, ho0, hb⟩; have HO573 := Aside0.mk (Kd.R_lower (Kd.R_new' (Kd.R_new' (Kd.R_new' (Kd.R_new' (Kd.R_new' ho0 (Kd.R_lt (by (with_reducible repeat (first | apply Kd.R_alloc | apply Kd.R_drewN | apply Kd.R_drew)); exact HO_3.out))) (Kd.R_lt (by (with_reducible repeat (first | apply Kd.R_alloc | apply Kd.R_drewN | apply Kd.R_drew)); exact HO555.out))) (Kd.R_lt (by (with_reducible repeat (first | apply Kd.R_alloc | apply Kd.R_drewN | apply Kd.R_drew)); exact HO558.out))) (Kd.R_lt (by (with_reducible repeat (first | apply Kd.R_alloc | apply Kd.R_drewN | apply Kd.R_drew)); exact HO562.out))) (Kd.R_lt (by (with_reducible repeat (first | apply Kd.R_alloc | apply Kd.R_drewN | apply Kd.R_drew)); exact HO570.out))) (below_size (bZ HB))); replace HO_3 := Aside0.mk (Kd.R_elder' (by (with_reducible repeat (first | apply Kd.R_alloc | apply Kd.R_drewN | apply Kd.R_drew)); exact HO_3.out) (Kd.R_base ho0) hb); replace HO555 := Aside0.mk (Kd.R_elder' (by (with_reducible repeat (first | apply Kd.R_alloc | apply Kd.R_drewN | apply Kd.R_drew)); exact HO555.out) (Kd.R_base ho0) hb); replace HO558 := Aside0.mk (Kd.R_elder' (by (with_reducible repeat (first | apply Kd.R_alloc | apply Kd.R_drewN | apply Kd.R_drew)); exact HO558.out) (Kd.R_base ho0) hb); replace HO562 := Aside0.mk (Kd.R_elder' (by (with_reducible repeat (first | apply Kd.R_alloc | apply Kd.R_drewN | apply Kd.R_drew)); exact HO562.out) (Kd.R_base ho0) hb); replace HO570 := Aside0.mk (Kd.R_elder' (by (with_reducible repeat (first | apply Kd.R_alloc | apply Kd.R_drewN | apply Kd.R_drew)); exact HO570.out) (Kd.R_base ho0) hb); replace HB := bS HB hb; (try clear hb); (try clear hb2); (try clear hk); (try clear hi); (try clear ho0); obtain ⟨Ao49, co49, eo49⟩ := Kd.R_slice HO570.out; subst eo49; obtain ⟨Ao50, co50, eo50⟩ := Kd.R_slice HO573.out; subst eo50) | (go_at_call 38; (with_reducible refine (laws_sameTexts.calls k1 _ _ t568 _ _ t571 true _ ?side1 ?side2 ?side3 ?side4 A32.out).mono ?_); (case side1 => repeat (first | exact (Kd.R_reads' HO570.out).2.2 | (with_reducible refine Kd.C_alloc ?_ _) | (with_reducible refine Kd.C_drewN ?_ _) | (with_reducible refine Kd.C_drew ?_))); (case side2 => exact (Kd.R_reads' HO570.out).2.1); (case side3 => repeat (first | exact (Kd.R_reads' HO573.out).2.2 | (with_reducible refine Kd.C_alloc ?_ _) | (with_reducible refine Kd.C_drewN ?_ _) | (with_reducible refine Kd.C_drew ?_))); (case side4 => exact (Kd.R_reads' HO573.out).2.1); rintro e w' ⟨rfl, ⟨nd, rfl⟩⟩) | (go_at_call 33; (with_reducible refine (impl_LevelsOf.calls k1 t563 t575 _ A34.out).mono ?_); rintro e w' ⟨rfl, ⟨nd, rfl⟩⟩) | (go_at_call 39; (with_reducible refine (spec_LevelsOf.calls k1 t563 t576 _ A35.out).mono ?_); rintro e w' ⟨rfl, ⟨nd, rfl⟩⟩))
         go_ret
         exact ⟨by first | rfl | (simp [errW_none, errW_some] <;> rfl) | (simp [*, errW_none, errW_some] <;> rfl), bZ HB⟩
        ·replace c33 := Bool.eq_false_iff.mpr c33
         subst c33
         have H1 : (some false) = some r := by rw [if_neg (show ¬ (false = true) by decide)] at H; exact H
         clear H
         have H := H1
         clear H1
         exact absurd (Option.some.inj H) (by rw [htrue.out]; exact Bool.false_ne_true)
       ·rw [if_neg c29] at H
        have c29b0 : (t566.toList == t567.toList) = false := beq_eq_false_iff_ne.mpr c29
        have c29b1 : (t566.toList != t567.toList) = true := bne_iff_ne.mpr c29
        exact absurd (Option.some.inj H) (by rw [htrue.out]; exact Bool.false_ne_true)
      ·rw [if_neg c26] at H
       have c26b0 : (t564.toList == t565.toList) = false := beq_eq_false_iff_ne.mpr c26
       have c26b1 : (t564.toList != t565.toList) = true := bne_iff_ne.mpr c26
       exact absurd (Option.some.inj H) (by rw [htrue.out]; exact Bool.false_ne_true)
     ·rw [if_neg c23] at H
      have c23b0 : ((t544.size : Int) == 32) = false := beq_eq_false_iff_ne.mpr c23
      have c23b1 : ((t544.size : Int) != 32) = true := bne_iff_ne.mpr c23
      exact absurd (Option.some.inj H) (by rw [htrue.out]; exact Bool.false_ne_true)

/-- THE ONE PURE STATEMENT of laws_FnBranches. -/
def laws_FnBranches.Pure : Prop := ∀ (l0 : List Int), (l0.length ≤ 9223372036854775807 ∧ ∀ y1 ∈ l0, (Lit.int .u8 y1).wf = true) → ∃ k, laws_FnBranches.f k l0 = some true
end Go.Proofs.YtmiiknkfhiecgaaDoor.Pf
end
section
/- What is proved here: the digest of a text is 32 bytes, the same by the program and by the reference; so is the digest of a pair. No conditions but that the texts are no longer than 100000000 bytes. -/
set_option linter.unusedVariables false
set_option linter.unusedSimpArgs false
namespace Go.Proofs.YtmiiknkfhiecgaaDoor.Tree
open Go.RowKit Go.Proofs.YtmiiknkfhiecgaaDoor.Pf Go.Proofs.YtmiiknkfhiecgaaDoorW.PrintWords
def D (t : ByteArray) : ByteArray := Kp.digI t
theorem D_size (t : ByteArray) : (D t).size = 32 := by
  unfold D Kp.digI
  rw [ByteArray.size_extract, Kp.tx_size]
  decide
theorem impl_D {t : ByteArray} (h : t.size ≤ 100000000) : impl_Digest.f t = some (D t) := by
  unfold impl_Digest.f Kp.impl_Digest.f
  rw [if_pos (by omega)]
  rfl
theorem spec_D {t : ByteArray} (h : t.size ≤ 100000000) : spec_Digest.f t = some (D t) := by
  rw [← impl_D h]
  exact (Kp.digest_eq t).symm
theorem impl_pair {a b : ByteArray} (ha : a.size ≤ 40000000) (hb : b.size ≤ 40000000) : impl_DigestPair.f a b = some (D (a ++ b)) := by
  unfold impl_DigestPair.f
  rw [if_pos (by omega), impl_D (by rw [ByteArray.size_append]; omega)]
  rfl
theorem spec_pair {a b : ByteArray} (ha : a.size ≤ 40000000) (hb : b.size ≤ 40000000) : spec_DigestPair.f a b = some (D (a ++ b)) := by
  unfold spec_DigestPair.f
  rw [if_pos (by omega), spec_D (by rw [ByteArray.size_append]; omega)]
  rfl
attribute [irreducible] D
end Go.Proofs.YtmiiknkfhiecgaaDoor.Tree
end
section
namespace Go.Proofs.YtmiiknkfhiecgaaDoor.Pf
open Go.RowKit Go.Proofs.YtmiiknkfhiecgaaDoorW.PrintWords Go.Proofs.YtmiiknkfhiecgaaDoorW.PrintLast Go.Proofs.YtmiiknkfhiecgaaDoorW.PrintMore
attribute [local go_sem] max2_int min2_int max_two min_two max_three min_three max_four min_four   -- for this text's walks alone
set_option linter.unusedVariables false
set_option linter.unusedSimpArgs false
/-! ### laws_eqStringS: function 15 -/
def laws_eqStringS.l0 : Nat → List ByteArray → List ByteArray → Int → Option (Bool)
 | 0, _, _, _ => none
 | k + 1, x0, x1, x5 => if x5 < (x0.length : Int) then (if 0 ≤ x5 then (if x5 < (x1.length : Int) then (if (rdOf ByteArray.empty x0 x5).toList = (rdOf ByteArray.empty x1 x5).toList then (laws_eqStringS.l0 k x0 x1 (wrap64 (x5 + 1))) else (some false)) else (none)) else (none)) else (some true)
def laws_eqStringS.f (k : Nat) (l0 : List ByteArray) (l1 : List ByteArray) : Option (Bool) := if (l0.length : Int) = (l1.length : Int) then (laws_eqStringS.l0 k l0 l1 0) else (some false)
theorem laws_eqStringS.mono_l : ∀ k, (∀ y0 y1 y2, LeO (laws_eqStringS.l0 k y0 y1 y2) (laws_eqStringS.l0 (k + 1) y0 y1 y2))
 | 0 => fun _ _ _ r h => by simp [laws_eqStringS.l0] at h
 | k + 1 => by
  have ih0 := laws_eqStringS.mono_l k
  ·intro y0 y1 y2
   unfold laws_eqStringS.l0
   repeat' first
   | (with_reducible exact ih0 _ _ _)
   | (with_reducible exact LeO.refl _)
   | (with_reducible exact LeO.none _)
   | (with_reducible refine LeO.ite ?_ ?_)
   | (with_reducible refine LeO.bind ?_ (fun _ => ?_))
   | exact ih0 _ _ _
   | exact LeO.none _
   | refine LeO.ite ?_ ?_
   | refine LeO.bind ?_ (fun _ => ?_)
theorem laws_eqStringS.mono : ∀ a0 a1 k, LeO (laws_eqStringS.f k a0 a1) (laws_eqStringS.f (k + 1) a0 a1) := by
 intro a0 a1 k
 have ih0 := laws_eqStringS.mono_l k
 unfold laws_eqStringS.f
 repeat' first
   | (with_reducible exact ih0 _ _ _)
   | (with_reducible exact LeO.refl _)
   | (with_reducible exact LeO.none _)
   | (with_reducible refine LeO.ite ?_ ?_)
   | (with_reducible refine LeO.bind ?_ (fun _ => ?_))
   | exact ih0 _ _ _
   | exact LeO.none _
   | refine LeO.ite ?_ ?_
   | refine LeO.bind ?_ (fun _ => ?_)
set_option maxHeartbeats 8000000 in
set_option maxRecDepth 100000 in
theorem laws_eqStringS.calls (k : Nat) (A0 : Option Addr) (c0 : Nat) (l0 : List ByteArray) (A1 : Option Addr) (c1 : Nat) (l1 : List ByteArray) (r : Bool) (w : World) (hr0 : Kd.C Kd.string w A0 l0.length l0) (hc0 : l0.length ≤ c0) (hr1 : Kd.C Kd.string w A1 l1.length l1) (hc1 : l1.length ≤ c1) (h : laws_eqStringS.f k l0 l1 = some r) :
  Calls Tryd.prog 15 #[.slice A0 l0.length c0, .slice A1 l1.length c1] w fun e w' => e = .returned (.bool r) ∧ Drawn0 w w' := by
 have HR0 := Aside0.mk hr0
 have HC0 := Aside0.mk hc0
 clear hr0 hc0
 have HR1 := Aside0.mk hr1
 have HC1 := Aside0.mk hc1
 clear hr1 hc1
 have H : (if (l0.length : Int) = (l1.length : Int) then (laws_eqStringS.l0 k l0 l1 0) else (some false)) = some r := h
 clear h
 by_cases c3 : (l0.length : Int) = (l1.length : Int)
 ·rw [if_pos c3] at H
  have c3b0 : ((l0.length : Int) == (l1.length : Int)) = true := beq_iff_eq.mpr c3
  have c3b1 : ((l0.length : Int) != (l1.length : Int)) = false := bne_eq_false_iff_eq.mpr c3
  have c3b2 : (l0.length == l1.length) = true := by first | simpa using c3 | (simp at c3 ⊢; omega)
  clear c3
  have H' := Aside0.mk H
  clear H
  go_enter Tryd.func15, Tryd.ntmps15
  go_wp2
  repeat (go_quiet (fail); try go_wp2)
  go_loopg [5] k (fun kq v5 w' => ∃ (x5_1 : Int), v5 = .int .i64 x5_1 ∧ Aside0 (laws_eqStringS.l0 kq l0 l1 x5_1 = some r) ∧ Aside0 (kq ≤ k) ∧ Drawn0 w w')
  case atStart => exact ⟨(0), (by first | rfl | (simp; done) | (simp [*]; done)), H', ⟨Nat.le_refl _⟩, by repeat (first | exact Drawn0.refl _ | apply Drawn0.step)⟩
  case round =>
   clear H'
   try clear c1
   try clear p2
   try clear c3
   try clear c3b0
   try clear c3b1
   try clear c3b2
   obtain ⟨x5_1, rfl, HA, HK1, ⟨m1, rfl⟩⟩ := hrel
   cases gk with
   | zero => exact absurd HA.out (by simp [laws_eqStringS.l0])
   | succ k1 =>
    have H := HA.out
    clear HA
    simp only [laws_eqStringS.l0] at H
    by_cases c4 : x5_1 < (l0.length : Int)
    ·rw [if_pos c4] at H
     have c4b0 : decide (x5_1 < (l0.length : Int)) = true := decide_eq_true c4
     clear c4
     by_cases c5 : 0 ≤ x5_1
     ·rw [if_pos c5] at H
      have c5b0 : decide (0 ≤ x5_1) = true := decide_eq_true c5
      clear c5
      by_cases c6 : x5_1 < (l1.length : Int)
      ·rw [if_pos c6] at H
       have c6b0 : decide (x5_1 < (l1.length : Int)) = true := decide_eq_true c6
       clear c6
       by_cases c7 : (rdOf ByteArray.empty l0 x5_1).toList = (rdOf ByteArray.empty l1 x5_1).toList
       ·rw [if_pos c7] at H
        have c7b0 : ((rdOf ByteArray.empty l0 x5_1).toList == (rdOf ByteArray.empty l1 x5_1).toList) = true := beq_iff_eq.mpr c7
        have c7b1 : ((rdOf ByteArray.empty l0 x5_1).toList != (rdOf ByteArray.empty l1 x5_1).toList) = false := bne_eq_false_iff_eq.mpr c7
        clear c7
        have H' := Aside0.mk H
        clear H
        have p119 : 0 ≤ (x5_1 : Int) := of_decide_eq_true (by first | (with_reducible assumption) | assumption)
        have q119 : x5_1 < (l0.length : Int) := of_decide_eq_true (by first | (with_reducible assumption) | assumption)
        obtain ⟨ad119, e119, hx119_0⟩ := Kd.at_string HR0.out x5_1 p119 q119
        cases e119
        replace p119 := eq_true p119
        replace q119 := eq_true q119
        have p120 : 0 ≤ (x5_1 : Int) := of_decide_eq_true (by first | (with_reducible assumption) | assumption)
        have q120 : x5_1 < (l1.length : Int) := of_decide_eq_true (by first | (with_reducible assumption) | assumption)
        obtain ⟨ad120, e120, hx120_0⟩ := Kd.at_string HR1.out x5_1 p120 q120
        cases e120
        replace p120 := eq_true p120
        replace q120 := eq_true q120
        go_wp2
        repeat (go_quiet (fail); try go_wp2)
        go_roundg k1
        case measure => have := HK1.out; omega
        case rel => exact ⟨(wrap64 (x5_1 + 1)), (by first | rfl | (simp; done) | (simp [*]; done)), H', ⟨by have := HK1.out; omega⟩, by repeat (first | exact Drawn0.refl _ | apply Drawn0.step)⟩
       ·rw [if_neg c7] at H
        have c7b0 : ((rdOf ByteArray.empty l0 x5_1).toList == (rdOf ByteArray.empty l1 x5_1).toList) = false := beq_eq_false_iff_ne.mpr c7
        have c7b1 : ((rdOf ByteArray.empty l0 x5_1).toList != (rdOf ByteArray.empty l1 x5_1).toList) = true := bne_iff_ne.mpr c7
        obtain rfl := Option.some.inj H
        have p119 : 0 ≤ (x5_1 : Int) := of_decide_eq_true (by first | (with_reducible assumption) | assumption)
        have q119 : x5_1 < (l0.length : Int) := of_decide_eq_true (by first | (with_reducible assumption) | assumption)
        obtain ⟨ad119, e119, hx119_0⟩ := Kd.at_string HR0.out x5_1 p119 q119
        cases e119
        replace p119 := eq_true p119
        replace q119 := eq_true q119
        have p120 : 0 ≤ (x5_1 : Int) := of_decide_eq_true (by first | (with_reducible assumption) | assumption)
        have q120 : x5_1 < (l1.length : Int) := of_decide_eq_true (by first | (with_reducible assumption) | assumption)
        obtain ⟨ad120, e120, hx120_0⟩ := Kd.at_string HR1.out x5_1 p120 q120
        cases e120
        replace p120 := eq_true p120
        replace q120 := eq_true q120
        go_wp2
        repeat (go_quiet (fail); try go_wp2)
        go_ret
        exact ⟨by first | rfl | (simp; done) | (simp [*]; done), by repeat (first | exact Drawn0.refl _ | apply Drawn0.step)⟩
      ·rw [if_neg c6] at H
       exact absurd H (by simp)
     ·rw [if_neg c5] at H
      exact absurd H (by simp)
    ·rw [if_neg c4] at H
     have c4b0 : decide (x5_1 < (l0.length : Int)) = false := decide_eq_false c4
     clear c4
     obtain rfl := Option.some.inj H
     go_wp2
     repeat (go_quiet (fail); try go_wp2)
     go_ret
     exact ⟨by first | rfl | (simp; done) | (simp [*]; done), by repeat (first | exact Drawn0.refl _ | apply Drawn0.step)⟩
 ·rw [if_neg c3] at H
  have c3b0 : ((l0.length : Int) == (l1.length : Int)) = false := beq_eq_false_iff_ne.mpr c3
  have c3b1 : ((l0.length : Int) != (l1.length : Int)) = true := bne_iff_ne.mpr c3
  have c3b2 : (l0.length == l1.length) = false := by first | simpa using c3 | (simp at c3 ⊢; omega)
  obtain rfl := Option.some.inj H
  go_enter Tryd.func15, Tryd.ntmps15
  go_wp2
  repeat (go_quiet (fail); try go_wp2)
  go_ret
  exact ⟨by first | rfl | (simp; done) | (simp [*]; done), by repeat (first | exact Drawn0.refl _ | apply Drawn0.step)⟩
/-! ### laws_toStringS: function 13 -/
def laws_toStringS.l0 : Nat → List ByteArray → List ByteArray → Int → Option (List ByteArray)
 | 0, _, _, _ => none
 | k + 1, x0, x3, x4 => if x4 < (x0.length : Int) then (if 0 ≤ x4 then (if x4 < (x3.length : Int) then (laws_toStringS.l0 k x0 (x3.set (x4 : Int).toNat (rdOf ByteArray.empty x0 x4)) (wrap64 (x4 + 1))) else (none)) else (none)) else (some x3)
def laws_toStringS.f (k : Nat) (l0 : List ByteArray) : Option (List ByteArray) := if 0 ≤ (l0.length : Int) then (if ((l0.length : Int) : Int).toNat ≤ 17592186044416 then (laws_toStringS.l0 k l0 (List.replicate ((l0.length : Int) : Int).toNat (⟨#[]⟩ : ByteArray)) 0) else (none)) else (none)
theorem laws_toStringS.mono_l : ∀ k, (∀ y0 y1 y2, LeO (laws_toStringS.l0 k y0 y1 y2) (laws_toStringS.l0 (k + 1) y0 y1 y2))
 | 0 => fun _ _ _ r h => by simp [laws_toStringS.l0] at h
 | k + 1 => by
  have ih0 := laws_toStringS.mono_l k
  ·intro y0 y1 y2
   unfold laws_toStringS.l0
   repeat' first
   | (with_reducible exact ih0 _ _ _)
   | (with_reducible exact LeO.refl _)
   | (with_reducible exact LeO.none _)
   | (with_reducible refine LeO.ite ?_ ?_)
   | (with_reducible refine LeO.bind ?_ (fun _ => ?_))
   | exact ih0 _ _ _
   | exact LeO.none _
   | refine LeO.ite ?_ ?_
   | refine LeO.bind ?_ (fun _ => ?_)
theorem laws_toStringS.mono : ∀ a0 k, LeO (laws_toStringS.f k a0) (laws_toStringS.f (k + 1) a0) := by
 intro a0 k
 have ih0 := laws_toStringS.mono_l k
 unfold laws_toStringS.f
 repeat' first
   | (with_reducible exact ih0 _ _ _)
   | (with_reducible exact LeO.refl _)
   | (with_reducible exact LeO.none _)
   | (with_reducible refine LeO.ite ?_ ?_)
   | (with_reducible refine LeO.bind ?_ (fun _ => ?_))
   | exact ih0 _ _ _
   | exact LeO.none _
   | refine LeO.ite ?_ ?_
   | refine LeO.bind ?_ (fun _ => ?_)
set_option maxHeartbeats 8000000 in
set_option maxRecDepth 100000 in
theorem laws_toStringS.calls (k : Nat) (A0 : Option Addr) (c0 : Nat) (l0 : List ByteArray) (r : List ByteArray) (w : World) (hr0 : Kd.C Kd.string w A0 l0.length l0) (hc0 : l0.length ≤ c0) (h : laws_toStringS.f k l0 = some r) :
  Calls Tryd.prog 13 #[.slice A0 l0.length c0] w fun e w' => ∃ v0_ : Value, e = .returned (v0_) ∧ Kd.R Kd.string 9 w' w.heap.size (fun _ => True) v0_ r ∧ Below w.heap.size w w' := by
 have HR0 := Aside0.mk hr0
 have HC0 := Aside0.mk hc0
 clear hr0 hc0
 have HB := Aside0.mk (Below.refl w.heap.size w)
 have H : (if 0 ≤ (l0.length : Int) then (if ((l0.length : Int) : Int).toNat ≤ 17592186044416 then (laws_toStringS.l0 k l0 (List.replicate ((l0.length : Int) : Int).toNat (⟨#[]⟩ : ByteArray)) 0) else (none)) else (none)) = some r := h
 clear h
 by_cases c2 : 0 ≤ (l0.length : Int)
 ·rw [if_pos c2] at H
  have c2b0 := eq_true c2
  have c2b1 : decide (0 ≤ (l0.length : Int)) = true := decide_eq_true c2
  clear c2
  by_cases c3 : ((l0.length : Int) : Int).toNat ≤ 17592186044416
  ·rw [if_pos c3] at H
   have c3b0 := eq_true c3
   have c3b1 : decide (((l0.length : Int) : Int).toNat ≤ 17592186044416) = true := decide_eq_true c3
   clear c3
   obtain ⟨y109, hy109⟩ : ∃ y_ : List ByteArray, y_ = (List.replicate ((l0.length : Int) : Int).toNat (⟨#[]⟩ : ByteArray)) := ⟨_, rfl⟩
   replace H : (laws_toStringS.l0 k l0 y109 0) = some r := by first | (rw [hy109]; with_reducible exact H) | (have H2_ := (Option.bind_some _ _).symm.trans H; rw [hy109]; with_reducible exact H2_) | (have H2_ := (Option.bind_some _ _).symm.trans H; with_reducible exact H2_) | with_reducible exact H | (rw [hy109]; exact H) | exact H
   have Ny109 := Aside0.mk hy109
   clear hy109
   have H' := Aside0.mk H
   clear H
   go_enter Tryd.func13, Tryd.ntmps13
   go_wp2_with (first | ((with_reducible refine gate_dst (N := 7) rfl ?_); refine Kd.R_make Kd.string _ 9 rfl (N := 7) rfl 22 _ _ rfl (l0.length : Int) rfl rfl Tryd.underlying22 (.string ⟨#[]⟩) 16 info9 rfl (by decide) (by omega) (⟨#[]⟩ : ByteArray) (ok := fun _ => True) (okp := fun _ => True) rfl (fun _ hk => hk) trivial (of_decide_eq_true (by first | (with_reducible assumption) | assumption)) (Nat.le_trans (Nat.mul_le_mul_right _ (of_decide_eq_true (by first | (with_reducible assumption) | assumption) : (l0.length : Int).toNat ≤ 17592186044416)) (by omega)) (Below.refl _ _) (Nat.le_refl _) ?_; intro v110 w4 ho5 hb hg_ hnew_; clear hg_ hnew_; (first | rw [← Ny109.out] at ho5 | (simp only [Int.reduceToNat] at ho5; rw [← Ny109.out] at ho5)); have HO111 := Aside0.mk (Kd.R_lower ho5 (below_size (bZ HB))); replace HB := bS HB hb; clear hb ho5))
   go_loopg [4] k (fun kq v4 w' => ∃ (x3_1 : List ByteArray) (x4_1 : Int), v4 = .int .i64 x4_1 ∧ Aside0 (laws_toStringS.l0 kq l0 x3_1 x4_1 = some r) ∧ Aside0 (kq ≤ k) ∧ Aside0 (Kd.R Kd.string 9 w' w.heap.size (fun _ => True) v110 x3_1) ∧ Aside0 (Below w.heap.size w w'))
   case atStart => exact ⟨(y109), (0), (by first | rfl | (simp; done) | (simp [*]; done)), H', ⟨Nat.le_refl _⟩, ⟨by (with_reducible repeat (first | apply Kd.R_alloc | apply Kd.R_drewN | apply Kd.R_drew)); exact HO111.out⟩, ⟨bZ HB⟩⟩
   case round =>
    clear H'
    try clear c1
    try clear c2
    try clear c2b0
    try clear c2b1
    try clear p2
    try clear c3
    try clear c3b0
    try clear c3b1
    obtain ⟨x3_1, x4_1, rfl, HA, HK1, HO_3, HB⟩ := hrel
    cases gk with
    | zero => exact absurd HA.out (by simp [laws_toStringS.l0])
    | succ k1 =>
     have H := HA.out
     clear HA
     simp only [laws_toStringS.l0] at H
     by_cases c6 : x4_1 < (l0.length : Int)
     ·rw [if_pos c6] at H
      have c6b0 : decide (x4_1 < (l0.length : Int)) = true := decide_eq_true c6
      clear c6
      by_cases c7 : 0 ≤ x4_1
      ·rw [if_pos c7] at H
       have c7b0 : decide (0 ≤ x4_1) = true := decide_eq_true c7
       clear c7
       by_cases c8 : x4_1 < (x3_1.length : Int)
       ·rw [if_pos c8] at H
        have c8b0 : decide (x4_1 < (x3_1.length : Int)) = true := decide_eq_true c8
        clear c8
        obtain ⟨y113, hy113⟩ : ∃ y_ : List ByteArray, y_ = (x3_1.set (x4_1 : Int).toNat (rdOf ByteArray.empty l0 x4_1)) := ⟨_, rfl⟩
        replace H : (laws_toStringS.l0 k1 l0 y113 (wrap64 (x4_1 + 1))) = some r := by first | (rw [hy113]; with_reducible exact H) | (have H2_ := (Option.bind_some _ _).symm.trans H; rw [hy113]; with_reducible exact H2_) | (have H2_ := (Option.bind_some _ _).symm.trans H; with_reducible exact H2_) | with_reducible exact H | (rw [hy113]; exact H) | exact H
        have Ny113 := Aside0.mk hy113
        clear hy113
        have H' := Aside0.mk H
        clear H
        have p112 : 0 ≤ (x4_1 : Int) := of_decide_eq_true (by first | (with_reducible assumption) | assumption)
        have q112 : x4_1 < (l0.length : Int) := of_decide_eq_true (by first | (with_reducible assumption) | assumption)
        obtain ⟨ad112, e112, hx112_0⟩ := Kd.at_string HR0.out x4_1 p112 q112
        cases e112
        replace hx112_0 := (HB.out.cell (World.block_lt_of_cell? w _ hx112_0)).trans hx112_0
        replace p112 := eq_true p112
        replace q112 := eq_true q112
        have p9 : 0 ≤ (x4_1 : Int) := of_decide_eq_true (by first | (with_reducible assumption) | assumption)
        have q9 : (x4_1 : Int) < ((x3_1.length : Int) : Int) := of_decide_eq_true (by first | (with_reducible assumption) | assumption)
        obtain ⟨go9, co9, eo9, gb9, gl9, cl9, HG9⟩ := Kd.R_form HO_3.out (by omega)
        (first | cases eo9 | (injection eo9 with ea_ en_ ec_; (first | subst ea_ | (injection ea_ with ea_; subst ea_)); subst ec_; clear en_))
        have GB9 := Aside0.mk gb9
        have GG9 := Aside0.mk HG9
        clear gb9 gl9 HG9
        obtain ⟨hx9_0, hf9_0⟩ := Kd.R_celln (⟨#[]⟩ : ByteArray) HO_3.out (x4_1 : Int) p9 q9
        replace p9 := eq_true p9
        replace q9 := eq_true q9
        have HP10 := Kd.R_putg HO_3.out (x4_1 : Int) (rdOf ByteArray.empty l0 x4_1)
        go_wp2_with (first | ((with_reducible refine gate_store (t := 9) (p := 20) rfl ?_); refine store_event (t := 9) (p := 20) (v := ?vo_w11) (w1 := (wr.setCell ⟨go9, (x4_1 : Int).toNat, none⟩ (.string (rdOf ByteArray.empty l0 x4_1)))) ?hg ?ho ?hn ?hr ?_; (case ho => rfl); (case hg => rfl); (case hn => rfl); (case hr => first | (go_simp; done) | (go_simp; rfl)); intro w11 hw; have hg : wr.grownBy w11 (some go9) := (by rw [hw]; exact HP10.2); have hp_ : Kd.R Kd.string 9 w11 w.heap.size (fun _ => True) (.slice (some ⟨go9, 0, none⟩) x3_1.length co9) y113 := (by rw [hw, Ny113.out]; exact HP10.1); clear HP10; replace HO_3 := Aside0.mk (hp_); replace HB := Aside0.mk ((by rw [hw]; exact below_set (HB.out) GB9.out : Below w.heap.size w w11)); clear hg hw hp_))
        go_roundg k1
        case measure => have := HK1.out; omega
        case rel => exact ⟨(y113), (wrap64 (x4_1 + 1)), (by first | rfl | (simp; done) | (simp [*]; done)), H', ⟨by have := HK1.out; omega⟩, ⟨by (with_reducible repeat (first | apply Kd.R_alloc | apply Kd.R_drewN | apply Kd.R_drew)); exact HO_3.out⟩, ⟨bZ HB⟩⟩
       ·rw [if_neg c8] at H
        exact absurd H (by simp)
      ·rw [if_neg c7] at H
       exact absurd H (by simp)
     ·rw [if_neg c6] at H
      have c6b0 : decide (x4_1 < (l0.length : Int)) = false := decide_eq_false c6
      clear c6
      obtain rfl := Option.some.inj H
      go_wp2
      go_ret
      exact ⟨_, by first | rfl | (simp [errW_none, errW_some] <;> rfl) | (simp [*, errW_none, errW_some] <;> rfl), by (with_reducible repeat (first | apply Kd.R_alloc | apply Kd.R_drewN | apply Kd.R_drew)); exact HO_3.out, bZ HB⟩
  ·rw [if_neg c3] at H
   exact absurd H (by simp)
 ·rw [if_neg c2] at H
  exact absurd H (by simp)
/-! ### laws_szStringS: function 11 -/
def laws_szStringS.l0 : Nat → List ByteArray → Int → Int → Option (Int)
 | 0, _, _, _ => none
 | k + 1, x0, x1, x5 => if x5 < (x0.length : Int) then (if 0 ≤ x5 then (if (wrap64 (x1 - ((rdOf ByteArray.empty x0 x5).size : Int))) < 0 then (some (-1)) else (laws_szStringS.l0 k x0 (wrap64 (x1 - ((rdOf ByteArray.empty x0 x5).size : Int))) (wrap64 (x5 + 1)))) else (none)) else (some x1)
def laws_szStringS.f (k : Nat) (l0 : List ByteArray) (a1 : Int) : Option (Int) := if (wrap64 (a1 - (l0.length : Int))) < 0 then (some (-1)) else (laws_szStringS.l0 k l0 (wrap64 (a1 - (l0.length : Int))) 0)
theorem laws_szStringS.mono_l : ∀ k, (∀ y0 y1 y2, LeO (laws_szStringS.l0 k y0 y1 y2) (laws_szStringS.l0 (k + 1) y0 y1 y2))
 | 0 => fun _ _ _ r h => by simp [laws_szStringS.l0] at h
 | k + 1 => by
  have ih0 := laws_szStringS.mono_l k
  ·intro y0 y1 y2
   unfold laws_szStringS.l0
   repeat' first
   | (with_reducible exact ih0 _ _ _)
   | (with_reducible exact LeO.refl _)
   | (with_reducible exact LeO.none _)
   | (with_reducible refine LeO.ite ?_ ?_)
   | (with_reducible refine LeO.bind ?_ (fun _ => ?_))
   | exact ih0 _ _ _
   | exact LeO.none _
   | refine LeO.ite ?_ ?_
   | refine LeO.bind ?_ (fun _ => ?_)
theorem laws_szStringS.mono : ∀ a0 a1 k, LeO (laws_szStringS.f k a0 a1) (laws_szStringS.f (k + 1) a0 a1) := by
 intro a0 a1 k
 have ih0 := laws_szStringS.mono_l k
 unfold laws_szStringS.f
 repeat' first
   | (with_reducible exact ih0 _ _ _)
   | (with_reducible exact LeO.refl _)
   | (with_reducible exact LeO.none _)
   | (with_reducible refine LeO.ite ?_ ?_)
   | (with_reducible refine LeO.bind ?_ (fun _ => ?_))
   | exact ih0 _ _ _
   | exact LeO.none _
   | refine LeO.ite ?_ ?_
   | refine LeO.bind ?_ (fun _ => ?_)
set_option maxHeartbeats 8000000 in
set_option maxRecDepth 100000 in
theorem laws_szStringS.calls (k : Nat) (A0 : Option Addr) (c0 : Nat) (l0 : List ByteArray) (a1 : Int) (r : Int) (w : World) (hr0 : Kd.C Kd.string w A0 l0.length l0) (hc0 : l0.length ≤ c0) (h : laws_szStringS.f k l0 a1 = some r) :
  Calls Tryd.prog 11 #[.slice A0 l0.length c0, .int .i64 a1] w fun e w' => e = .returned (.int .i64 r) ∧ Drawn0 w w' := by
 have HR0 := Aside0.mk hr0
 have HC0 := Aside0.mk hc0
 clear hr0 hc0
 have H : (if (wrap64 (a1 - (l0.length : Int))) < 0 then (some (-1)) else (laws_szStringS.l0 k l0 (wrap64 (a1 - (l0.length : Int))) 0)) = some r := h
 clear h
 by_cases c3 : (wrap64 (a1 - (l0.length : Int))) < 0
 ·rw [if_pos c3] at H
  have c3b0 : decide ((wrap64 (a1 - (l0.length : Int))) < 0) = true := decide_eq_true c3
  clear c3
  obtain rfl := Option.some.inj H
  go_enter Tryd.func11, Tryd.ntmps11
  go_wp2
  go_ret
  exact ⟨by first | rfl | (simp; done) | (simp [*]; done), by repeat (first | exact Drawn0.refl _ | apply Drawn0.step)⟩
 ·rw [if_neg c3] at H
  have c3b0 : decide ((wrap64 (a1 - (l0.length : Int))) < 0) = false := decide_eq_false c3
  clear c3
  have H' := Aside0.mk H
  clear H
  go_enter Tryd.func11, Tryd.ntmps11
  go_wp2
  go_loopg [1, 5] k (fun kq v1 v5 w' => ∃ (x1_1 : Int) (x5_1 : Int), v1 = .int .i64 x1_1 ∧ v5 = .int .i64 x5_1 ∧ Aside0 (laws_szStringS.l0 kq l0 x1_1 x5_1 = some r) ∧ Aside0 (kq ≤ k) ∧ Drawn0 w w')
  case atStart => exact ⟨(wrap64 (a1 - (l0.length : Int))), (0), (by first | rfl | (simp; done) | (simp [*]; done)), (by first | rfl | (simp; done) | (simp [*]; done)), H', ⟨Nat.le_refl _⟩, by repeat (first | exact Drawn0.refl _ | apply Drawn0.step)⟩
  case round =>
   clear H'
   try clear c1
   try clear p2
   try clear c3
   try clear c3b0
   obtain ⟨x1_1, x5_1, rfl, rfl, HA, HK1, ⟨m1, rfl⟩⟩ := hrel
   cases gk with
   | zero => exact absurd HA.out (by simp [laws_szStringS.l0])
   | succ k1 =>
    have H := HA.out
    clear HA
    simp only [laws_szStringS.l0] at H
    by_cases c4 : x5_1 < (l0.length : Int)
    ·rw [if_pos c4] at H
     have c4b0 : decide (x5_1 < (l0.length : Int)) = true := decide_eq_true c4
     clear c4
     by_cases c5 : 0 ≤ x5_1
     ·rw [if_pos c5] at H
      have c5b0 : decide (0 ≤ x5_1) = true := decide_eq_true c5
      clear c5
      by_cases c6 : (wrap64 (x1_1 - ((rdOf ByteArray.empty l0 x5_1).size : Int))) < 0
      ·rw [if_pos c6] at H
       have c6b0 : decide ((wrap64 (x1_1 - ((rdOf ByteArray.empty l0 x5_1).size : Int))) < 0) = true := decide_eq_true c6
       clear c6
       obtain rfl := Option.some.inj H
       have p101 : 0 ≤ (x5_1 : Int) := of_decide_eq_true (by first | (with_reducible assumption) | assumption)
       have q101 : x5_1 < (l0.length : Int) := of_decide_eq_true (by first | (with_reducible assumption) | assumption)
       obtain ⟨ad101, e101, hx101_0⟩ := Kd.at_string HR0.out x5_1 p101 q101
       cases e101
       replace p101 := eq_true p101
       replace q101 := eq_true q101
       go_wp2
       go_ret
       exact ⟨by first | rfl | (simp; done) | (simp [*]; done), by repeat (first | exact Drawn0.refl _ | apply Drawn0.step)⟩
      ·rw [if_neg c6] at H
       have c6b0 : decide ((wrap64 (x1_1 - ((rdOf ByteArray.empty l0 x5_1).size : Int))) < 0) = false := decide_eq_false c6
       clear c6
       have H' := Aside0.mk H
       clear H
       have p101 : 0 ≤ (x5_1 : Int) := of_decide_eq_true (by first | (with_reducible assumption) | assumption)
       have q101 : x5_1 < (l0.length : Int) := of_decide_eq_true (by first | (with_reducible assumption) | assumption)
       obtain ⟨ad101, e101, hx101_0⟩ := Kd.at_string HR0.out x5_1 p101 q101
       cases e101
       replace p101 := eq_true p101
       replace q101 := eq_true q101
       go_wp2
       go_roundg k1
       case measure => have := HK1.out; omega
       case rel => exact ⟨(wrap64 (x1_1 - ((rdOf ByteArray.empty l0 x5_1).size : Int))), (wrap64 (x5_1 + 1)), (by first | rfl | (simp; done) | (simp [*]; done)), (by first | rfl | (simp; done) | (simp [*]; done)), H', ⟨by have := HK1.out; omega⟩, by repeat (first | exact Drawn0.refl _ | apply Drawn0.step)⟩
     ·rw [if_neg c5] at H
      exact absurd H (by simp)
    ·rw [if_neg c4] at H
     have c4b0 : decide (x5_1 < (l0.length : Int)) = false := decide_eq_false c4
     clear c4
     obtain rfl := Option.some.inj H
     go_wp2
     go_ret
     exact ⟨by first | rfl | (simp; done) | (simp [*]; done), by repeat (first | exact Drawn0.refl _ | apply Drawn0.step)⟩
end Go.Proofs.YtmiiknkfhiecgaaDoor.Pf
end
section
/- What is proved here: what the laws' own helpers over lists of texts answer (equal lists are equal, a copy is the list, the size taken bounds all). No conditions but that a list is no longer than a Go slice can be. -/
set_option linter.unusedVariables false
set_option linter.unusedSimpArgs false
namespace Go.Proofs.YtmiiknkfhiecgaaDoor.Strs
open Go.RowKit Go.Proofs.YtmiiknkfhiecgaaDoor.Pf Go.Proofs.YtmiiknkfhiecgaaDoorW.PrintWords

theorem wrap_in {i : Int} (h0 : -9223372036854775808 ≤ i) (h : i ≤ 9223372036854775807) : wrap64 i = i := by
  unfold wrap64; omega
theorem rdOf_get {xs : List ByteArray} {i : Nat} (h : i < xs.length) : rdOf ByteArray.empty xs (i : Int) = xs[i] := by
  unfold rdOf
  rw [Int.toNat_natCast, List.getD_eq_getElem?_getD, List.getElem?_eq_getElem h]
  rfl

theorem eqStringS_l0 (xs : List ByteArray) (hn : xs.length ≤ 9223372036854775807) (d : Nat) : ∀ (i : Int) (k : Nat), 0 ≤ i → (xs.length : Int) - i = d → d < k → laws_eqStringS.l0 k xs xs i = some true := by
  induction d with
  | zero =>
    intro i k h0 hd hk
    obtain ⟨k, rfl⟩ : ∃ m, k = m + 1 := ⟨k - 1, by omega⟩
    simp only [laws_eqStringS.l0]
    rw [if_neg (by omega)]
  | succ d ih =>
    intro i k h0 hd hk
    obtain ⟨k, rfl⟩ : ∃ m, k = m + 1 := ⟨k - 1, by omega⟩
    simp only [laws_eqStringS.l0]
    rw [if_pos (by omega), if_pos h0, if_pos (by omega), wrap_in (by omega) (by omega), if_pos trivial]
    exact ih (i + 1) k (by omega) (by omega) (by omega)
theorem eqStringS_same (xs : List ByteArray) (hn : xs.length ≤ 9223372036854775807) (k : Nat) (hk : xs.length < k) : laws_eqStringS.f k xs xs = some true := by
  unfold laws_eqStringS.f
  rw [if_pos rfl]
  exact eqStringS_l0 xs hn xs.length 0 k (by omega) (by omega) hk

theorem toStringS_l0 (xs : List ByteArray) (hn : xs.length ≤ 9223372036854775807) (d : Nat) : ∀ (i k : Nat), i + d = xs.length → d < k →
    laws_toStringS.l0 k xs (xs.take i ++ List.replicate d (⟨#[]⟩ : ByteArray)) (i : Int) = some xs := by
  induction d with
  | zero =>
    intro i k hi hk
    obtain ⟨k, rfl⟩ : ∃ m, k = m + 1 := ⟨k - 1, by omega⟩
    simp only [laws_toStringS.l0]
    rw [if_neg (by omega)]
    rw [List.take_of_length_le (by omega)]
    simp
  | succ d ih =>
    intro i k hi hk
    obtain ⟨k, rfl⟩ : ∃ m, k = m + 1 := ⟨k - 1, by omega⟩
    simp only [laws_toStringS.l0]
    rw [if_pos (by omega), if_pos (by omega), if_pos (by simp; omega), Int.toNat_natCast, wrap_in (by omega) (by omega)]
    have h1 : i < xs.length := by omega
    have hs : (xs.take i ++ List.replicate (d + 1) (⟨#[]⟩ : ByteArray)).set i (rdOf ByteArray.empty xs (i : Int)) = xs.take (i + 1) ++ List.replicate d (⟨#[]⟩ : ByteArray) := by
      rw [List.set_append_right _ _ (by simp; omega), rdOf_get h1]
      rw [List.take_succ_eq_append_getElem h1, List.length_take, Nat.min_eq_left (by omega), Nat.sub_self, List.replicate_succ, List.set_cons_zero]
      rw [List.append_assoc, List.singleton_append]
    rw [hs, show (i : Int) + 1 = ((i + 1 : Nat) : Int) by omega]
    exact ih (i + 1) k (by omega) (by omega)
theorem toStringS_f (xs : List ByteArray) (hn : xs.length ≤ 17592186044416) (k : Nat) (hk : xs.length < k) : laws_toStringS.f k xs = some xs := by
  unfold laws_toStringS.f
  rw [if_pos (by omega), Int.toNat_natCast, if_pos hn]
  have h := toStringS_l0 xs (by omega) xs.length 0 k (by omega) hk
  simpa using h

def total (xs : List ByteArray) : Nat := (xs.map ByteArray.size).sum
theorem total_cons (x : ByteArray) (xs : List ByteArray) : total (x :: xs) = x.size + total xs := by simp [total]
theorem total_mem {x : ByteArray} {xs : List ByteArray} (h : x ∈ xs) : x.size ≤ total xs := by
  induction xs with
  | nil => simp at h
  | cons y ys ih =>
    rw [total_cons]
    rcases List.mem_cons.1 h with rfl | h
    · omega
    · have := ih h; omega
theorem szStringS_l0 (xs : List ByteArray) (hn : xs.length ≤ 9223372036854775807) (hs : ∀ y ∈ xs, y.size ≤ 9223372036854775807) (d : Nat) : ∀ (i k : Nat) (left : Int), i + d = xs.length → d < k → 0 ≤ left → left ≤ 1048576 →
    ∃ r, laws_szStringS.l0 k xs left (i : Int) = some r ∧ (r < 0 ∨ (r = left - total (xs.drop i))) := by
  induction d with
  | zero =>
    intro i k left hi hk h0 h1
    obtain ⟨k, rfl⟩ : ∃ m, k = m + 1 := ⟨k - 1, by omega⟩
    simp only [laws_szStringS.l0]
    rw [if_neg (by omega)]
    refine ⟨_, rfl, Or.inr ?_⟩
    rw [List.drop_of_length_le (by omega)]
    simp [total]
  | succ d ih =>
    intro i k left hi hk h0 h1
    obtain ⟨k, rfl⟩ : ∃ m, k = m + 1 := ⟨k - 1, by omega⟩
    have h2 : i < xs.length := by omega
    have h3 := hs xs[i] (List.getElem_mem h2)
    simp only [laws_szStringS.l0]
    rw [if_pos (by omega), if_pos (by omega), rdOf_get h2, wrap_in (by omega) (by omega), wrap_in (by omega) (by omega)]
    by_cases c : left - (xs[i].size : Int) < 0
    · rw [if_pos c]
      exact ⟨_, rfl, Or.inl (by decide)⟩
    · rw [if_neg c, show (i : Int) + 1 = ((i + 1 : Nat) : Int) by omega]
      obtain ⟨r, hr, hr2⟩ := ih (i + 1) k (left - xs[i].size) (by omega) (by omega) (by omega) (by omega)
      refine ⟨r, hr, ?_⟩
      rcases hr2 with h | h
      · exact Or.inl h
      · right
        rw [List.drop_eq_getElem_cons h2, total_cons]
        omega
theorem szStringS_f (xs : List ByteArray) (hn : xs.length ≤ 9223372036854775807) (hs : ∀ y ∈ xs, y.size ≤ 9223372036854775807) (k : Nat) (hk : 1048577 < k) :
    ∃ r, laws_szStringS.f k xs 1048576 = some r ∧ (r < 0 ∨ ((xs.length : Int) + total xs ≤ 1048576)) := by
  unfold laws_szStringS.f
  rw [wrap_in (by omega) (by omega)]
  by_cases c : (1048576 : Int) - (xs.length : Int) < 0
  · rw [if_pos c]
    exact ⟨_, rfl, Or.inl (by decide)⟩
  · rw [if_neg c]
    obtain ⟨r, hr, hr2⟩ := szStringS_l0 xs hn hs xs.length 0 k (1048576 - xs.length) (by omega) (by omega) (by omega) (by omega)
    refine ⟨r, hr, ?_⟩
    rw [List.drop_zero] at hr2
    rcases hr2 with h | h
    · exact Or.inl h
    · by_cases c2 : r < 0
      · exact Or.inl c2
      · right; omega
end Go.Proofs.YtmiiknkfhiecgaaDoor.Strs
end
section
/- What is proved here: what FoldBranch answers, as the program and as the reference write it. No conditions but that the texts are no longer than 2^20 bytes. -/
set_option linter.unusedVariables false
set_option linter.unusedSimpArgs false
namespace Go.Proofs.YtmiiknkfhiecgaaDoor.Tree
open Go.RowKit Go.Proofs.YtmiiknkfhiecgaaDoor.Pf Go.Proofs.YtmiiknkfhiecgaaDoorW.PrintWords Go.Proofs.YtmiiknkfhiecgaaDoor.Strs
def jb (n i : Nat) : Bool := n / 2 ^ i % 2 == 1
theorem bit_dec : ∀ n : Nat, n < 32 → ∀ i : Nat, i < 5 → 0 ≤ IntKind.u64.wrap (i : Int) ∧ (Go.bits .and .i64 (shr .i64 (n : Int) (IntKind.u64.wrap (i : Int))) 1 = 1 ↔ jb n i = true) ∧ (Int.tmod (shr .i64 (n : Int) (IntKind.u64.wrap (i : Int))) 2 = 1 ↔ jb n i = true) := by decide +kernel
theorem shl_dec : ∀ n : Nat, n < 6 → 0 ≤ IntKind.u64.wrap (n : Int) ∧ shl .i64 1 (IntKind.u64.wrap (n : Int)) = ((2 ^ n : Nat) : Int) ∧ wrap64 (((2 ^ n : Nat) : Int) - 1) = ((2 ^ n : Nat) : Int) - 1 := by decide +kernel
/-- The node above x, by way of the texts beside. -/
def up (n : Nat) : ByteArray → List ByteArray → Nat → ByteArray
  | x, [], _ => x
  | x, b :: bs, k => up n (if jb n k then D (b ++ x) else D (x ++ b)) bs (k + 1)
theorem up_size (n : Nat) (bs : List ByteArray) : ∀ (x : ByteArray) (k : Nat), x.size = 32 → (up n x bs k).size = 32 := by
  induction bs with
  | nil => intro x k h; exact h
  | cons b bs ih => intro x k h; exact ih _ _ (by split <;> exact D_size _)
def foldB (leaf : ByteArray) (i : Int) (bs : List ByteArray) : ByteArray := if bs.length ≤ 5 ∧ 0 ≤ i ∧ i < ((2 ^ bs.length : Nat) : Int) then up i.toNat (D leaf) bs 0 else ByteArray.empty
theorem impl_l0 (n : Nat) (hn : n < 32) (l : List ByteArray) (hl : l.length ≤ 5) (hs : ∀ y ∈ l, y.size ≤ 1048576) (d : Nat) : ∀ (i k : Nat) (x : ByteArray), i + d = l.length → d < k → x.size = 32 →
    impl_FoldBranch.l0 k (n : Int) x l (l.length : Int) (i : Int) = some (up n x (l.drop i) i) := by
  induction d with
  | zero =>
    intro i k x hi hk hx
    obtain ⟨k, rfl⟩ : ∃ m, k = m + 1 := ⟨k - 1, by omega⟩
    simp only [impl_FoldBranch.l0]
    rw [if_neg (by omega), List.drop_of_length_le (by omega)]
    rfl
  | succ d ih =>
    intro i k x hi hk hx
    obtain ⟨k, rfl⟩ : ∃ m, k = m + 1 := ⟨k - 1, by omega⟩
    have h2 : i < l.length := by omega
    have h3 := hs l[i] (List.getElem_mem h2)
    obtain ⟨b0, b1, _⟩ := bit_dec n hn i (by omega)
    simp only [impl_FoldBranch.l0]
    rw [if_pos (by omega), if_pos (by omega), if_pos (by omega), if_pos b0, rdOf_get h2, wrap_in (by omega) (by omega), List.drop_eq_getElem_cons h2, show (i : Int) + 1 = ((i + 1 : Nat) : Int) by omega]
    by_cases c : jb n i = true
    · rw [if_pos (b1.2 c), impl_pair (by omega) (by omega), Option.bind_some, ih (i + 1) k _ (by omega) (by omega) (D_size _)]
      simp only [up, c, if_true]
    · rw [if_neg (fun e => c (b1.1 e)), impl_pair (by omega) (by omega), Option.bind_some, ih (i + 1) k _ (by omega) (by omega) (D_size _)]
      simp only [up]
      rw [if_neg c]
theorem spec_l0 (n : Nat) (hn : n < 32) (l : List ByteArray) (hl : l.length ≤ 5) (hs : ∀ y ∈ l, y.size ≤ 1048576) (d : Nat) : ∀ (i k : Nat) (x : ByteArray), i + d = l.length → d < k → x.size = 32 →
    spec_FoldBranch.l0 k (n : Int) l x (i : Int) = some (up n x (l.drop i) i) := by
  induction d with
  | zero =>
    intro i k x hi hk hx
    obtain ⟨k, rfl⟩ : ∃ m, k = m + 1 := ⟨k - 1, by omega⟩
    simp only [spec_FoldBranch.l0]
    rw [if_neg (by omega), List.drop_of_length_le (by omega)]
    rfl
  | succ d ih =>
    intro i k x hi hk hx
    obtain ⟨k, rfl⟩ : ∃ m, k = m + 1 := ⟨k - 1, by omega⟩
    have h2 : i < l.length := by omega
    have h3 := hs l[i] (List.getElem_mem h2)
    obtain ⟨b0, _, b1⟩ := bit_dec n hn i (by omega)
    simp only [spec_FoldBranch.l0]
    rw [if_pos (by omega), if_pos b0, if_pos (show (0 : Int) ≤ (i : Int) by omega), rdOf_get h2, wrap_in (by omega) (by omega), List.drop_eq_getElem_cons h2, show (i : Int) + 1 = ((i + 1 : Nat) : Int) by omega]
    by_cases c : jb n i = true
    · rw [if_pos (b1.2 c), spec_pair (by omega) (by omega), Option.bind_some, ih (i + 1) k _ (by omega) (by omega) (D_size _)]
      simp only [up, c, if_true]
    · rw [if_neg (fun e => c (b1.1 e)), if_pos (show (0 : Int) ≤ (i : Int) by omega), spec_pair (by omega) (by omega), Option.bind_some, ih (i + 1) k _ (by omega) (by omega) (D_size _)]
      simp only [up]
      rw [if_neg c]
theorem pow_small {n : Nat} (h : n ≤ 5) : 1 ≤ 2 ^ n ∧ 2 ^ n ≤ 32 := by
  have : ∀ m : Nat, m < 6 → 1 ≤ 2 ^ m ∧ 2 ^ m ≤ 32 := by decide
  exact this n (by omega)
theorem impl_fold (k : Nat) (hk : 8 < k) (leaf : ByteArray) (i : Int) (l : List ByteArray) (h0 : leaf.size ≤ 10000000) (hs : ∀ y ∈ l, y.size ≤ 1048576) : impl_FoldBranch.f k leaf i l = some (foldB leaf i l) := by
  obtain ⟨k, rfl⟩ : ∃ m, k = m + 1 := ⟨k - 1, by omega⟩
  have fj : impl_FoldBranch.j0 (k + 1) leaf i l true = some ByteArray.empty := by simp only [impl_FoldBranch.j0, if_true]; rfl
  unfold impl_FoldBranch.f foldB
  by_cases c1 : l.length ≤ 5
  case neg => rw [if_pos (by omega), fj, if_neg (by omega)]
  rw [if_neg (by omega)]
  by_cases c2 : i < 0
  · rw [if_pos c2, fj, if_neg (by omega)]
  obtain ⟨b0, b1, _⟩ := shl_dec l.length (by omega)
  rw [if_neg c2, if_pos b0, b1]
  have hp := pow_small c1
  generalize 2 ^ l.length = P at hp
  by_cases c3 : i < (P : Int)
  case neg => rw [decide_eq_true (by omega), fj, if_neg (by omega)]
  rw [decide_eq_false (by omega), if_pos ⟨c1, by omega, c3⟩]
  simp only [impl_FoldBranch.j0]
  rw [if_neg (by decide), impl_D (by omega), Option.bind_some]
  obtain ⟨n, rfl⟩ : ∃ n : Nat, i = (n : Int) := ⟨i.toNat, by omega⟩
  exact impl_l0 n (by omega) l c1 hs l.length 0 k (D leaf) (by omega) (by omega) (D_size _)
theorem l01In_f (a b c : Int) : spec_l01In.f a b c = some (decide (b ≤ a ∧ a ≤ c)) := by
  unfold spec_l01In.f
  by_cases h : a ≥ b
  · rw [if_pos h]; congr 1; apply decide_eq_decide.2; omega
  · rw [if_neg h, decide_eq_false (by omega)]
theorem spec_fold (k : Nat) (hk : 8 < k) (leaf : ByteArray) (i : Int) (l : List ByteArray) (h0 : leaf.size ≤ 10000000) (hs : ∀ y ∈ l, y.size ≤ 1048576) : spec_FoldBranch.f k leaf i l = some (foldB leaf i l) := by
  obtain ⟨k, rfl⟩ : ∃ m, k = m + 1 := ⟨k - 1, by omega⟩
  have fj : spec_FoldBranch.j0 (k + 1) leaf i l true = some ByteArray.empty := by simp only [spec_FoldBranch.j0, if_true]; rfl
  unfold spec_FoldBranch.f foldB
  by_cases c1 : l.length ≤ 5
  case neg => rw [if_pos (by omega), fj, if_neg (by omega)]
  obtain ⟨b0, b1, b2⟩ := shl_dec l.length (by omega)
  rw [if_neg (by omega), if_pos b0, b1, b2, l01In_f, Option.bind_some]
  have hp := pow_small c1
  generalize 2 ^ l.length = P at hp
  by_cases c3 : 0 ≤ i ∧ i < (P : Int)
  case neg => rw [decide_eq_false (by omega), Bool.not_false, fj, if_neg (by omega)]
  rw [decide_eq_true (by omega), Bool.not_true, if_pos ⟨c1, by omega, by omega⟩]
  simp only [spec_FoldBranch.j0]
  rw [if_neg (by decide), spec_D (by omega), Option.bind_some]
  obtain ⟨n, rfl⟩ : ∃ n : Nat, i = (n : Int) := ⟨i.toNat, by omega⟩
  exact spec_l0 n (by omega) l c1 hs l.length 0 k (D leaf) (by omega) (by omega) (D_size _)
end Go.Proofs.YtmiiknkfhiecgaaDoor.Tree
end
section
/- What is proved here: the levels of a tree of digests, its root and its branches, as the program and as the reference write them. No conditions but that there are 32 leaves at most, none longer than 2^20 bytes. -/
set_option linter.unusedVariables false
set_option linter.unusedSimpArgs false
namespace Go.Proofs.YtmiiknkfhiecgaaDoor.Tree
open Go.RowKit Go.Proofs.YtmiiknkfhiecgaaDoor.Pf Go.Proofs.YtmiiknkfhiecgaaDoorW.PrintWords Go.Proofs.YtmiiknkfhiecgaaDoor.Strs
abbrev BA := ByteArray
/-- The digests of the pairs. -/
def up1 : List BA → List BA
  | a :: b :: r => D (a ++ b) :: up1 r
  | _ => []
theorem up1_length : ∀ (n : Nat) (x : List BA), x.length = 2 * n → (up1 x).length = n
  | 0, [], _ => rfl
  | n + 1, a :: b :: r, h => by
    have := up1_length n r (by simp only [List.length_cons] at h; omega)
    simp [up1, this]
theorem up1_get : ∀ (n : Nat) (x : List BA), x.length = 2 * n → ∀ i (h : i < n) (h1 : i < (up1 x).length) (h2 : 2 * i < x.length) (h3 : 2 * i + 1 < x.length), (up1 x)[i] = D (x[2 * i] ++ x[2 * i + 1])
  | 0, _, _, i, h, _, _, _ => by omega
  | n + 1, a :: b :: r, hl, i, h, h1, h2, h3 => by
    match i with
    | 0 => rfl
    | i + 1 =>
      have hl' : r.length = 2 * n := by simp only [List.length_cons] at hl; omega
      have e := up1_get n r hl' i (by omega) (by rw [up1_length n r hl']; omega) (by omega) (by omega)
      simp only [up1, List.getElem_cons_succ]
      rw [e]
      simp only [show 2 * (i + 1) = 2 * i + 1 + 1 by omega, List.getElem_cons_succ]
theorem up1_size : ∀ (n : Nat) (x : List BA), x.length = 2 * n → ∀ y ∈ up1 x, y.size = 32
  | 0, [], _, y, hy => by simp [up1] at hy
  | n + 1, a :: b :: r, h, y, hy => by
    simp only [up1, List.mem_cons] at hy
    rcases hy with rfl | hy
    · exact D_size _
    · exact up1_size n r (by simp only [List.length_cons] at h; omega) y hy
def levels : Nat → List BA → List (List BA)
  | 0, x => [x]
  | j + 1, x => x :: levels j (up1 x)
def tops : Nat → List BA → List BA
  | 0, x => x
  | j + 1, x => tops j (up1 x)
def lows : Nat → List BA → List (List BA)
  | 0, _ => []
  | j + 1, x => x :: lows j (up1 x)
theorem levels_split (j : Nat) : ∀ x, levels j x = lows j x ++ [tops j x] := by
  induction j with
  | zero => intro x; rfl
  | succ j ih => intro x; simp only [levels, lows, tops, ih, List.cons_append]
theorem lows_length (j : Nat) : ∀ x, (lows j x).length = j := by
  induction j with
  | zero => intro x; rfl
  | succ j ih => intro x; simp only [lows, List.length_cons, ih]
theorem tops_length (j : Nat) : ∀ x : List BA, x.length = 2 ^ j → (tops j x).length = 1 := by
  induction j with
  | zero => intro x h; exact h
  | succ j ih => intro x h; exact ih _ (up1_length (2 ^ j) x (by rw [h, Nat.pow_succ]; omega))
theorem tops_size (j : Nat) : ∀ x : List BA, x.length = 2 ^ j → (∀ y ∈ x, y.size = 32) → ∀ y ∈ tops j x, y.size = 32 := by
  induction j with
  | zero => intro x h hs; exact hs
  | succ j ih => intro x h hs; have hl : x.length = 2 * 2 ^ j := by (rw [h, Nat.pow_succ]; omega)
                 exact ih _ (up1_length (2 ^ j) x hl) (up1_size (2 ^ j) x hl)
theorem l3_up (k : Nat) (x6 : List (List BA)) (x3 : List BA) (n : Nat) (hn : x3.length = 2 * n) (hn2 : n ≤ 1000) (hs : ∀ y ∈ x3, y.size = 32) (h6 : x6.length ≤ 1000) (d : Nat) : ∀ i, i + d = n →
    impl_levelsOfTree.l3 (k + d + 1) x6 x3 ((up1 x3).take i) ((2 * i : Nat) : Int) = impl_levelsOfTree.l2 k (x6 ++ [up1 x3]) (up1 x3) := by
  have hl := up1_length n x3 hn
  induction d with
  | zero =>
    intro i hi
    simp only [impl_levelsOfTree.l3, Nat.add_zero]
    rw [if_neg (by omega), if_pos (by omega), List.take_of_length_le (by omega)]
  | succ d ih =>
    intro i hi
    have h1 : 2 * i < x3.length := by omega
    have h2 : 2 * i + 1 < x3.length := by omega
    rw [show k + (d + 1) + 1 = (k + d + 1) + 1 by omega]
    simp only [impl_levelsOfTree.l3]
    have e1 : wrap64 (((2 * i : Nat) : Int) + 1) = ((2 * i + 1 : Nat) : Int) := by rw [wrap_in (by omega) (by omega)]; omega
    have e2 : wrap64 (((2 * i : Nat) : Int) + 2) = ((2 * (i + 1) : Nat) : Int) := by rw [wrap_in (by omega) (by omega)]; omega
    rw [if_pos (by omega), if_pos (by omega), e1, if_pos (by omega), if_pos (by omega), rdOf_get h1, rdOf_get h2, impl_pair (by rw [hs _ (List.getElem_mem h1)]; omega) (by rw [hs _ (List.getElem_mem h2)]; omega), Option.bind_some,
      if_pos (by rw [List.length_take]; omega), e2]
    have hg := up1_get n x3 hn i (by omega) (by omega) h1 h2
    rw [← hg, ← List.take_succ_eq_append_getElem (by omega)]
    exact ih (i + 1) (by omega)
theorem l2_levels (j : Nat) : ∀ (pre : List (List BA)) (x : List BA), j ≤ 5 → x.length = 2 ^ j → pre.length + j ≤ 100 → (∀ y ∈ x, y.size = 32) → ∀ k, 40 * (j + 1) ≤ k → impl_levelsOfTree.l2 k (pre ++ [x]) x = some (pre ++ levels j x) := by
  induction j with
  | zero =>
    intro pre x hj hx hp hs k hk
    obtain ⟨k, rfl⟩ : ∃ m, k = m + 1 := ⟨k - 1, by omega⟩
    simp only [impl_levelsOfTree.l2]
    rw [if_neg (by rw [hx]; decide)]
    rfl
  | succ j ih =>
    intro pre x hj hx hp hs k hk
    have hpj := pow_small (show j ≤ 5 by omega)
    have hx2 : x.length = 2 * 2 ^ j := by rw [hx, Nat.pow_succ]; omega
    obtain ⟨k, rfl⟩ : ∃ m, k = (m + 2 ^ j + 1) + 1 := ⟨k - 2 ^ j - 2, by omega⟩
    simp only [impl_levelsOfTree.l2]
    rw [if_pos (by omega)]
    have h3 := l3_up k (pre ++ [x]) x (2 ^ j) hx2 (by omega) hs (by simp; omega) (2 ^ j) 0 (by omega)
    rw [List.take_zero] at h3
    have h3' : impl_levelsOfTree.l3 (k + 2 ^ j + 1) (pre ++ [x]) x [] 0 = impl_levelsOfTree.l2 k (pre ++ [x] ++ [up1 x]) (up1 x) := h3
    rw [h3', ih (pre ++ [x]) (up1 x) (by omega) (up1_length _ _ hx2) (by simp; omega) (up1_size _ _ hx2) k (by omega)]
    simp [levels]
/-- The least power of two that is no less than n (and 1 for 0), for n ≤ 32; its exponent. -/
def lg (n : Nat) : Nat := if n ≤ 1 then 0 else if n ≤ 2 then 1 else if n ≤ 4 then 2 else if n ≤ 8 then 3 else if n ≤ 16 then 4 else 5
theorem np_facts : ∀ m : Nat, m < 33 → m ≤ 2 ^ lg m ∧ lg m ≤ 5 ∧ (m ≠ 0 → ((Go.bits .and .i64 (m : Int) (wrap64 ((m : Int) - 1))) = 0 ↔ 2 ^ lg m = m)) ∧ (2 ^ lg m ≠ m → lg (m + 1) = lg m) := by decide +kernel
def hashes (l : List BA) : List BA := l.map D ++ List.replicate (2 ^ lg l.length - l.length) (D ByteArray.empty)
theorem hashes_length {l : List BA} (h : l.length ≤ 32) : (hashes l).length = 2 ^ lg l.length := by
  have := (np_facts l.length (by omega)).1
  simp [hashes]; omega
theorem hashes_size (l : List BA) : ∀ y ∈ hashes l, y.size = 32 := by
  intro y hy
  unfold hashes at hy
  rcases List.mem_append.1 hy with hy | hy
  · obtain ⟨z, _, rfl⟩ := List.mem_map.1 hy
    exact D_size _
  · rw [(List.mem_replicate.1 hy).2]
    exact D_size _
theorem l1_pad (k : Nat) (d : Nat) : ∀ (x : List BA), x.length ≤ 32 → x.length + d = 2 ^ lg x.length → impl_levelsOfTree.l1 (k + d + 1) x = impl_levelsOfTree.l2 k [x ++ List.replicate d (D ByteArray.empty)] (x ++ List.replicate d (D ByteArray.empty)) := by
  induction d with
  | zero =>
    intro x hx hd
    obtain ⟨_, _, h1, _⟩ := np_facts x.length (by omega)
    have h0 : x.length ≠ 0 := by intro e; rw [e] at hd; exact absurd hd (by decide)
    simp only [impl_levelsOfTree.l1, Nat.add_zero]
    rw [if_neg (by omega), if_pos ((h1 h0).2 (by omega))]
    simp
  | succ d ih =>
    intro x hx hd
    obtain ⟨_, h5, h1, h2⟩ := np_facts x.length (by omega)
    have hp := pow_small h5
    have e2 := h2 (by omega)
    have hr : x ++ List.replicate (d + 1) (D ByteArray.empty) = (x ++ [D ByteArray.empty]) ++ List.replicate d (D ByteArray.empty) := by
      rw [List.replicate_succ, List.append_assoc, List.singleton_append]
    have hl : (x ++ [D ByteArray.empty]).length = x.length + 1 := by simp
    have hi := ih (x ++ [D ByteArray.empty]) (by omega) (by rw [hl, e2]; omega)
    rw [show k + (d + 1) + 1 = (k + d + 1) + 1 by omega, impl_levelsOfTree.l1]
    have hD : impl_Digest.f (⟨#[]⟩ : ByteArray) = some (D ByteArray.empty) := impl_D (t := ByteArray.empty) (by decide)
    have hx8 : x.length < 8796093022208 := by omega
    rw [hr, ← hi]
    have hc : ∀ a b : Option (List (List BA)), (if (x.length : Int) = 0 then a else if (Go.bits .and .i64 (x.length : Int) (wrap64 ((x.length : Int) - 1))) = 0 then b else a) = a := by
      intro a b
      by_cases c : (x.length : Int) = 0
      · rw [if_pos c]
      · rw [if_neg c, if_neg (fun e => by have := (h1 (by omega)).1 e; omega)]
    rw [hD, Option.bind_some, if_pos hx8, hc]
theorem l0_map (k : Nat) (l : List BA) (hl : l.length ≤ 32) (hs : ∀ y ∈ l, y.size ≤ 1048576) (d : Nat) : ∀ i, i + d = l.length → impl_levelsOfTree.l0 (k + d + 1) ((l.take i).map D) l (l.length : Int) (i : Int) = impl_levelsOfTree.l1 k (l.map D) := by
  induction d with
  | zero =>
    intro i hi
    simp only [impl_levelsOfTree.l0, Nat.add_zero]
    rw [if_neg (by omega), List.take_of_length_le (by omega)]
  | succ d ih =>
    intro i hi
    have h1 : i < l.length := by omega
    have h2 := hs _ (List.getElem_mem h1)
    rw [show k + (d + 1) + 1 = (k + d + 1) + 1 by omega, impl_levelsOfTree.l0]
    rw [if_pos (by omega), if_pos (by omega), if_pos (by omega), rdOf_get h1, impl_D (by omega), Option.bind_some, if_pos (by simp; omega), wrap_in (by omega) (by omega), show (i : Int) + 1 = ((i + 1 : Nat) : Int) by omega, ← ih (i + 1) (by omega),
      List.take_succ_eq_append_getElem h1, List.map_append, List.map_singleton]
theorem levels_f (k : Nat) (hk : 400 ≤ k) (l : List BA) (hl : l.length ≤ 32) (hs : ∀ y ∈ l, y.size ≤ 1048576) : impl_levelsOfTree.f k l = some (levels (lg l.length) (hashes l)) := by
  obtain ⟨h1, h2, _, _⟩ := np_facts l.length (by omega)
  have hp := pow_small h2
  obtain ⟨m, rfl⟩ : ∃ m, k = ((m + (2 ^ lg l.length - l.length) + 1) + l.length) + 1 := ⟨k - 2 - l.length - (2 ^ lg l.length - l.length), by omega⟩
  unfold impl_levelsOfTree.f
  have h3 := l0_map (m + (2 ^ lg l.length - l.length) + 1) l hl hs l.length 0 (by omega)
  have h3' : impl_levelsOfTree.l0 ((m + (2 ^ lg l.length - l.length) + 1) + l.length + 1) [] l (l.length : Int) 0 = impl_levelsOfTree.l1 (m + (2 ^ lg l.length - l.length) + 1) (l.map D) := h3
  have hm : (l.map D).length = l.length := List.length_map D
  rw [h3', l1_pad m (2 ^ lg l.length - l.length) (l.map D) (by omega) (by rw [hm]; omega)]
  exact l2_levels (lg l.length) [] (hashes l) h2 (hashes_length hl) (by simp; omega) (hashes_size l) m (by omega)
def root (l : List BA) : BA := if l.length ≤ 32 then rdOf ByteArray.empty (tops (lg l.length) (hashes l)) 0 else ByteArray.empty
theorem rd_last (a : List (List BA)) (b : List BA) : rd_L2 (a ++ [b]) ((a.length : Nat) : Int) = b := by
  unfold rd_L2
  simp
theorem impl_root (k : Nat) (hk : 400 ≤ k) (l : List BA) (hs : ∀ y ∈ l, y.size ≤ 1048576) : impl_RootOf.f k l = some (root l) := by
  unfold impl_RootOf.f root
  by_cases c : l.length ≤ 32
  case neg => rw [if_pos (by omega), if_neg c]; rfl
  rw [if_neg (by omega), if_pos c, levels_f k hk l c hs, Option.bind_some, levels_split]
  obtain ⟨h1, h2, _, _⟩ := np_facts l.length (by omega)
  have e1 : (lows (lg l.length) (hashes l) ++ [tops (lg l.length) (hashes l)]).length = lg l.length + 1 := by rw [List.length_append, lows_length]; rfl
  have e2 : wrap64 ((((lows (lg l.length) (hashes l) ++ [tops (lg l.length) (hashes l)]).length : Nat) : Int) - 1) = (((lows (lg l.length) (hashes l)).length : Nat) : Int) := by
    rw [e1, lows_length, wrap_in (by omega) (by omega)]; omega
  rw [e2, rd_last, if_pos (by omega), if_pos (by rw [e1, lows_length]; omega), if_pos (by rw [tops_length _ _ (hashes_length c)]; decide)]
theorem root_size {l : List BA} (h : l.length ≤ 32) : (root l).size = 32 := by
  unfold root
  rw [if_pos h]
  have h1 := tops_length _ _ (hashes_length h)
  have h2 : (0 : Nat) < (tops (lg l.length) (hashes l)).length := by omega
  have e : rdOf ByteArray.empty (tops (lg l.length) (hashes l)) 0 = _ := rdOf_get (i := 0) h2
  rw [e]
  exact tops_size _ _ (hashes_length h) (hashes_size l) _ (List.getElem_mem h2)
-- the reference
theorem spec_up (x0 : List BA) (n : Nat) (hn : x0.length = 2 * n) (hn2 : n ≤ 1000) (hs : ∀ y ∈ x0, y.size = 32) (d : Nat) : ∀ i k, i + d = n → d < k → spec_l10Up.l0 k x0 ((up1 x0).take i) ((2 * i : Nat) : Int) = some (up1 x0) := by
  have hl := up1_length n x0 hn
  induction d with
  | zero =>
    intro i k hi hk
    obtain ⟨k, rfl⟩ : ∃ m, k = m + 1 := ⟨k - 1, by omega⟩
    simp only [spec_l10Up.l0]
    rw [wrap_in (by omega) (by omega), if_neg (by omega), List.take_of_length_le (by omega)]
  | succ d ih =>
    intro i k hi hk
    obtain ⟨k, rfl⟩ : ∃ m, k = m + 1 := ⟨k - 1, by omega⟩
    have h1 : 2 * i < x0.length := by omega
    have h2 : 2 * i + 1 < x0.length := by omega
    simp only [spec_l10Up.l0]
    have e1 : wrap64 (((2 * i : Nat) : Int) + 1) = ((2 * i + 1 : Nat) : Int) := by rw [wrap_in (by omega) (by omega)]; omega
    have e2 : wrap64 (((2 * i : Nat) : Int) + 2) = ((2 * (i + 1) : Nat) : Int) := by rw [wrap_in (by omega) (by omega)]; omega
    rw [e1, if_pos (by omega), if_pos (by omega), if_pos (by omega), if_pos (by omega), rdOf_get h1, rdOf_get h2, spec_pair (by rw [hs _ (List.getElem_mem h1)]; omega) (by rw [hs _ (List.getElem_mem h2)]; omega), Option.bind_some,
      if_pos (by rw [List.length_take]; omega), e2]
    have hg := up1_get n x0 hn i (by omega) (by omega) h1 h2
    rw [← hg, ← List.take_succ_eq_append_getElem (by omega)]
    exact ih (i + 1) k (by omega) (by omega)
theorem spec_up_f (k : Nat) (x0 : List BA) (n : Nat) (hn : x0.length = 2 * n) (hn2 : n ≤ 1000) (hs : ∀ y ∈ x0, y.size = 32) (hk : n < k) : spec_l10Up.f k x0 = some (up1 x0) := by
  have h := spec_up x0 n hn hn2 hs n 0 k (by omega) hk
  unfold spec_l10Up.f
  exact h
theorem lev_dec : ∀ n : Nat, n < 33 → spec_LevelsOf.f 10 (n : Int) = some ((lg n : Nat) : Int) ∧ 0 ≤ IntKind.u64.wrap ((lg n : Nat) : Int) ∧ shl .i64 1 (IntKind.u64.wrap ((lg n : Nat) : Int)) = ((2 ^ lg n : Nat) : Int) := by decide +kernel
theorem spec_lev (k : Nat) (hk : 10 ≤ k) (n : Nat) (hn : n ≤ 32) : spec_LevelsOf.f k (n : Int) = some ((lg n : Nat) : Int) :=
  at_rounds (g := fun k => spec_LevelsOf.f k (n : Int)) (fun k => spec_LevelsOf.mono (n : Int) k) hk (lev_dec n (by omega)).1
theorem spec_l1 (l : List BA) (hl : l.length ≤ 32) (d : Nat) : ∀ (x : List BA) (k : Nat), x.length + d = 2 ^ lg l.length → 40 + d ≤ k → spec_l10Hashes.l1 k l x (D ByteArray.empty) = some (x ++ List.replicate d (D ByteArray.empty)) := by
  obtain ⟨_, b0, b1⟩ := lev_dec l.length (by omega)
  have hp := pow_small (np_facts l.length (by omega)).2.1
  induction d with
  | zero =>
    intro x k hx hk
    obtain ⟨k, rfl⟩ : ∃ m, k = m + 1 := ⟨k - 1, by omega⟩
    simp only [spec_l10Hashes.l1]
    rw [spec_lev k (by omega) _ hl, Option.bind_some, if_pos b0, b1, if_neg (by omega)]
    simp
  | succ d ih =>
    intro x k hx hk
    obtain ⟨k, rfl⟩ : ∃ m, k = m + 1 := ⟨k - 1, by omega⟩
    simp only [spec_l10Hashes.l1]
    rw [spec_lev k (by omega) _ hl, Option.bind_some, if_pos b0, b1, if_pos (by omega), if_pos (by omega), ih (x ++ [D ByteArray.empty]) k (by simp; omega) (by omega), List.replicate_succ, List.append_assoc, List.singleton_append]
theorem spec_l0h (l : List BA) (hl : l.length ≤ 32) (hs : ∀ y ∈ l, y.size ≤ 1048576) (d : Nat) : ∀ i k, i + d = l.length → 100 + d ≤ k → spec_l10Hashes.l0 k l ((l.take i).map D) (i : Int) = some (hashes l) := by
  induction d with
  | zero =>
    intro i k hi hk
    obtain ⟨k, rfl⟩ : ∃ m, k = m + 1 := ⟨k - 1, by omega⟩
    have h1 := np_facts l.length (by omega)
    have hp := pow_small h1.2.1
    have hD : spec_Digest.f (⟨#[]⟩ : ByteArray) = some (D ByteArray.empty) := spec_D (t := ByteArray.empty) (by decide)
    simp only [spec_l10Hashes.l0]
    rw [if_neg (by omega), List.take_of_length_le (by omega), hD, Option.bind_some, spec_l1 l hl (2 ^ lg l.length - l.length) _ k (by rw [List.length_map]; omega) (by omega)]
    rfl
  | succ d ih =>
    intro i k hi hk
    obtain ⟨k, rfl⟩ : ∃ m, k = m + 1 := ⟨k - 1, by omega⟩
    have h1 : i < l.length := by omega
    have h2 := hs _ (List.getElem_mem h1)
    simp only [spec_l10Hashes.l0]
    rw [if_pos (by omega), if_pos (by omega), rdOf_get h1, spec_D (by omega), Option.bind_some, if_pos (by simp; omega), wrap_in (by omega) (by omega), show (i : Int) + 1 = ((i + 1 : Nat) : Int) by omega, ← ih (i + 1) k (by omega) (by omega),
      List.take_succ_eq_append_getElem h1, List.map_append, List.map_singleton]
theorem spec_hashes (k : Nat) (hk : 200 ≤ k) (l : List BA) (hl : l.length ≤ 32) (hs : ∀ y ∈ l, y.size ≤ 1048576) : spec_l10Hashes.f k l = some (hashes l) := by
  have h := spec_l0h l hl hs l.length 0 k (by omega) (by omega)
  unfold spec_l10Hashes.f
  exact h
theorem spec_root_l0 (j : Nat) : ∀ (x : List BA) (k : Nat), j ≤ 5 → x.length = 2 ^ j → (∀ y ∈ x, y.size = 32) → 100 + j ≤ k → spec_RootOf.l0 k x = some (rdOf ByteArray.empty (tops j x) 0) := by
  induction j with
  | zero =>
    intro x k hj hx hs hk
    obtain ⟨k, rfl⟩ : ∃ m, k = m + 1 := ⟨k - 1, by omega⟩
    simp only [spec_RootOf.l0]
    rw [if_neg (by rw [hx]; decide), if_pos (by rw [hx]; decide)]
    rfl
  | succ j ih =>
    intro x k hj hx hs hk
    obtain ⟨k, rfl⟩ : ∃ m, k = m + 1 := ⟨k - 1, by omega⟩
    have hpj := pow_small (show j ≤ 5 by omega)
    have hx2 : x.length = 2 * 2 ^ j := by rw [hx, Nat.pow_succ]; omega
    simp only [spec_RootOf.l0]
    rw [if_pos (by omega), spec_up_f k x (2 ^ j) hx2 (by omega) hs (by omega), Option.bind_some, ih (up1 x) k (by omega) (up1_length _ _ hx2) (up1_size _ _ hx2) (by omega)]
    rfl
theorem spec_root (k : Nat) (hk : 400 ≤ k) (l : List BA) (hs : ∀ y ∈ l, y.size ≤ 1048576) : spec_RootOf.f k l = some (root l) := by
  unfold spec_RootOf.f root
  by_cases c : l.length ≤ 32
  case neg => rw [if_pos (by omega), if_neg c]; rfl
  rw [if_neg (by omega), if_pos c, spec_hashes k (by omega) l c hs, Option.bind_some]
  exact spec_root_l0 _ _ k (np_facts l.length (by omega)).2.1 (hashes_length c) (hashes_size l) (by have := (np_facts l.length (by omega)).2.1; omega)
end Go.Proofs.YtmiiknkfhiecgaaDoor.Tree
end
section
/- What is proved here: what BranchOf answers, by the program and by the reference. No conditions but that the leaves are no longer than 2^20 bytes. -/
set_option linter.unusedVariables false
set_option linter.unusedSimpArgs false
namespace Go.Proofs.YtmiiknkfhiecgaaDoor.Tree
open Go.RowKit Go.Proofs.YtmiiknkfhiecgaaDoor.Pf Go.Proofs.YtmiiknkfhiecgaaDoorW.PrintWords Go.Proofs.YtmiiknkfhiecgaaDoor.Strs
/-- The place beside i. -/
def bes (i : Nat) : Nat := if i % 2 = 0 then i + 1 else i - 1
theorem xor_dec : ∀ i : Nat, i < 32 → Go.bits .xor .i64 (i : Int) 1 = ((bes i : Nat) : Int) ∧ wrap64 (Int.tdiv (i : Int) 2) = ((i / 2 : Nat) : Int) := by decide +kernel
theorem bes_lt {i n : Nat} (h : i < 2 * n) : bes i < 2 * n := by unfold bes; split <;> omega
def sides : Nat → Nat → List BA → List BA
  | 0, _, _ => []
  | j + 1, i, x => rdOf ByteArray.empty x (bes i : Int) :: sides j (i / 2) (up1 x)
theorem sides_length (j : Nat) : ∀ i x, (sides j i x).length = j := by
  induction j with
  | zero => intro i x; rfl
  | succ j ih => intro i x; simp only [sides, List.length_cons, ih]
theorem sides_size (j : Nat) : ∀ (i : Nat) (x : List BA), x.length = 2 ^ j → i < 2 ^ j → (∀ y ∈ x, y.size = 32) → ∀ y ∈ sides j i x, y.size = 32 := by
  induction j with
  | zero => intro i x _ _ _ y hy; simp [sides] at hy
  | succ j ih =>
    intro i x hx hi hs y hy
    have hx2 : x.length = 2 * 2 ^ j := by rw [hx, Nat.pow_succ]; omega
    have hi2 : i < 2 * 2 ^ j := by rw [Nat.pow_succ] at hi; omega
    simp only [sides, List.mem_cons] at hy
    rcases hy with rfl | hy
    · rw [rdOf_get (by rw [hx2]; exact bes_lt hi2)]
      exact hs _ (List.getElem_mem _)
    · exact ih (i / 2) (up1 x) (up1_length _ _ hx2) (by omega) (up1_size _ _ hx2) y hy
theorem spec_branch_l0 (j : Nat) : ∀ (i : Nat) (acc x : List BA) (k : Nat), j ≤ 5 → x.length = 2 ^ j → i < 2 ^ j → (∀ y ∈ x, y.size = 32) → acc.length + j ≤ 1000 → 100 + j ≤ k → spec_BranchOf.l0 k (i : Int) acc x = some (acc ++ sides j i x) := by
  induction j with
  | zero =>
    intro i acc x k hj hx hi hs ha hk
    obtain ⟨k, rfl⟩ : ∃ m, k = m + 1 := ⟨k - 1, by omega⟩
    simp only [spec_BranchOf.l0]
    rw [if_neg (by rw [hx]; decide), sides, List.append_nil]
  | succ j ih =>
    intro i acc x k hj hx hi hs ha hk
    obtain ⟨k, rfl⟩ : ∃ m, k = m + 1 := ⟨k - 1, by omega⟩
    have hpj := pow_small (show j ≤ 5 by omega)
    have hp := pow_small hj
    have hx2 : x.length = 2 * 2 ^ j := by rw [hx, Nat.pow_succ]; omega
    have hi2 : i < 2 * 2 ^ j := by rw [Nat.pow_succ] at hi; omega
    obtain ⟨e1, e2⟩ := xor_dec i (by omega)
    have hb := bes_lt hi2
    simp only [spec_BranchOf.l0]
    rw [if_pos (by omega), e1, e2, if_pos (by omega), if_pos (by omega), if_pos (by omega), spec_up_f k x (2 ^ j) hx2 (by omega) hs (by omega), Option.bind_some,
      ih (i / 2) (acc ++ [rdOf ByteArray.empty x (bes i : Int)]) (up1 x) k (by omega) (up1_length _ _ hx2) (by omega) (up1_size _ _ hx2) (by simp; omega) (by omega), List.append_assoc, List.singleton_append]
    rfl
theorem rd_mid (pre : List (List BA)) (x : List BA) (r : List (List BA)) : rd_L2 (pre ++ x :: r) ((pre.length : Nat) : Int) = x := by
  unfold rd_L2
  simp
theorem impl_branch_l0 (j : Nat) : ∀ (i : Nat) (acc : List BA) (pre : List (List BA)) (x : List BA) (k : Nat), j ≤ 5 → x.length = 2 ^ j → i < 2 ^ j → (∀ y ∈ x, y.size = 32) → acc.length + j ≤ 1000 → pre.length + j ≤ 1000 → j < k →
    impl_BranchOf.l0 k (i : Int) acc (pre ++ lows j x) ((pre.length + j : Nat) : Int) (pre.length : Int) = some (acc ++ sides j i x) := by
  induction j with
  | zero =>
    intro i acc pre x k hj hx hi hs ha hp hk
    obtain ⟨k, rfl⟩ : ∃ m, k = m + 1 := ⟨k - 1, by omega⟩
    simp only [impl_BranchOf.l0]
    rw [if_neg (by omega), sides, List.append_nil]
  | succ j ih =>
    intro i acc pre x k hj hx hi hs ha hp hk
    obtain ⟨k, rfl⟩ : ∃ m, k = m + 1 := ⟨k - 1, by omega⟩
    have hpj := pow_small (show j ≤ 5 by omega)
    have hp2 := pow_small hj
    have hx2 : x.length = 2 * 2 ^ j := by rw [hx, Nat.pow_succ]; omega
    have hi2 : i < 2 * 2 ^ j := by rw [Nat.pow_succ] at hi; omega
    obtain ⟨e1, e2⟩ := xor_dec i (by omega)
    have hb := bes_lt hi2
    have hl : (pre ++ lows (j + 1) x).length = pre.length + (j + 1) := by rw [List.length_append, lows_length]
    simp only [impl_BranchOf.l0]
    rw [if_pos (by omega), if_pos (by omega), if_pos (by rw [hl]; omega), e1, e2, if_pos (by omega), lows, rd_mid, if_pos (by omega), if_pos (by omega), wrap_in (by omega) (by omega)]
    have h := ih (i / 2) (acc ++ [rdOf ByteArray.empty x (bes i : Int)]) (pre ++ [x]) (up1 x) k (by omega) (up1_length _ _ hx2) (by omega) (up1_size _ _ hx2) (by simp; omega) (by simp; omega) (by omega)
    simp only [List.length_append, List.length_cons, List.length_nil, List.append_assoc, List.singleton_append] at h
    rw [show pre.length + (j + 1) = pre.length + (0 + 1) + j by omega, show ((pre.length : Nat) : Int) + 1 = ((pre.length + (0 + 1) : Nat) : Int) by omega, h]
    rfl
def branch (l : List BA) (i : Int) : List BA := if l.length ≤ 32 ∧ 0 ≤ i ∧ i < (l.length : Int) then sides (lg l.length) i.toNat (hashes l) else []
theorem lg_lt {n i : Nat} (h : n ≤ 32) (hi : i < n) : i < 2 ^ lg n := Nat.lt_of_lt_of_le hi (np_facts n (by omega)).1
theorem branch_length {l : List BA} {i : Int} (h : l.length ≤ 32 ∧ 0 ≤ i ∧ i < (l.length : Int)) : (branch l i).length = lg l.length := by
  unfold branch
  rw [if_pos h, sides_length]
theorem branch_le (l : List BA) (i : Int) : (branch l i).length ≤ 5 := by
  by_cases h : l.length ≤ 32 ∧ 0 ≤ i ∧ i < (l.length : Int)
  · rw [branch_length h]; exact (np_facts l.length (by omega)).2.1
  · unfold branch; rw [if_neg h]; decide
theorem branch_size (l : List BA) (i : Int) : ∀ y ∈ branch l i, y.size = 32 := by
  unfold branch
  split
  next h => exact sides_size _ _ _ (hashes_length h.1) (lg_lt h.1 (by omega)) (hashes_size l)
  next => intro y hy; simp at hy
theorem spec_branch (k : Nat) (hk : 400 ≤ k) (l : List BA) (i : Int) (hn : l.length ≤ 1048576) (hs : ∀ y ∈ l, y.size ≤ 1048576) : spec_BranchOf.f k l i = some (branch l i) := by
  obtain ⟨k, rfl⟩ : ∃ m, k = m + 1 := ⟨k - 1, by omega⟩
  have fj : spec_BranchOf.j0 (k + 1) l i [] true = some [] := by simp only [spec_BranchOf.j0, if_true]
  unfold spec_BranchOf.f branch
  rw [Option.bind_some]
  by_cases c : l.length ≤ 32
  case neg => rw [if_pos (by omega), fj, if_neg (by omega)]
  rw [if_neg (by omega), wrap_in (by omega) (by omega), l01In_f, Option.bind_some]
  by_cases c2 : 0 ≤ i ∧ i ≤ (l.length : Int) - 1
  case neg => rw [decide_eq_false c2, Bool.not_false, fj, if_neg (by omega)]
  rw [decide_eq_true c2, Bool.not_true, if_pos ⟨c, by omega, by omega⟩]
  simp only [spec_BranchOf.j0]
  rw [if_neg (by decide), spec_hashes k (by omega) l c hs, Option.bind_some]
  obtain ⟨n, rfl⟩ : ∃ n : Nat, i = (n : Int) := ⟨i.toNat, by omega⟩
  have h5 := (np_facts l.length (by omega)).2.1
  have h := spec_branch_l0 (lg l.length) n [] (hashes l) k h5 (hashes_length c) (lg_lt c (by omega)) (hashes_size l) (by simp; omega) (by omega)
  simpa using h
theorem impl_branch (k : Nat) (hk : 500 ≤ k) (l : List BA) (i : Int) (hs : ∀ y ∈ l, y.size ≤ 1048576) : impl_BranchOf.f k l i = some (branch l i) := by
  obtain ⟨k, rfl⟩ : ∃ m, k = m + 1 := ⟨k - 1, by omega⟩
  have fj : impl_BranchOf.j0 (k + 1) l i true = some [] := by simp only [impl_BranchOf.j0, if_true]
  unfold impl_BranchOf.f branch
  by_cases c : l.length ≤ 32
  case neg => rw [if_pos (by omega), fj, if_neg (by omega)]
  rw [if_neg (by omega)]
  by_cases c0 : i < 0
  · rw [if_pos c0, fj, if_neg (by omega)]
  rw [if_neg c0]
  by_cases c2 : i ≥ (l.length : Int)
  · rw [decide_eq_true c2, fj, if_neg (by omega)]
  rw [decide_eq_false c2, if_pos ⟨c, by omega, by omega⟩]
  simp only [impl_BranchOf.j0]
  obtain ⟨n, rfl⟩ : ∃ n : Nat, i = (n : Int) := ⟨i.toNat, by omega⟩
  have h5 := (np_facts l.length (by omega)).2.1
  have e1 : (lows (lg l.length) (hashes l) ++ [tops (lg l.length) (hashes l)]).length = lg l.length + 1 := by rw [List.length_append, lows_length]; rfl
  have e2 : wrap64 ((((lows (lg l.length) (hashes l) ++ [tops (lg l.length) (hashes l)]).length : Nat) : Int) - 1) = ((lg l.length : Nat) : Int) := by rw [e1, wrap_in (by omega) (by omega)]; omega
  have e3 : (lows (lg l.length) (hashes l) ++ [tops (lg l.length) (hashes l)]).take (lg l.length) = lows (lg l.length) (hashes l) := by
    have h := List.take_left (l₁ := lows (lg l.length) (hashes l)) (l₂ := [tops (lg l.length) (hashes l)])
    rwa [lows_length] at h
  rw [if_neg (by decide), levels_f k (by omega) l c hs, Option.bind_some, levels_split, e2, if_pos (by omega), if_pos (by rw [e1]; omega), Option.bind_some, Int.toNat_natCast, e3, lows_length]
  have h := impl_branch_l0 (lg l.length) n [] [] (hashes l) k h5 (hashes_length c) (lg_lt c (by omega)) (hashes_size l) (by simp; omega) (by simp; omega) (by omega)
  simpa using h
end Go.Proofs.YtmiiknkfhiecgaaDoor.Tree
end
section
/- What is proved here: a leaf and what stands beside it make the root. No conditions but that there are 32 leaves at most, none longer than 2^20 bytes. -/
set_option linter.unusedVariables false
set_option linter.unusedSimpArgs false
namespace Go.Proofs.YtmiiknkfhiecgaaDoor.Tree
open Go.RowKit Go.Proofs.YtmiiknkfhiecgaaDoor.Pf Go.Proofs.YtmiiknkfhiecgaaDoorW.PrintWords Go.Proofs.YtmiiknkfhiecgaaDoor.Strs
theorem up_sides (n : Nat) (j : Nat) : ∀ (x : List BA) (i k : Nat), x.length = 2 ^ j → i < 2 ^ j → i = n / 2 ^ k → up n (rdOf ByteArray.empty x (i : Int)) (sides j i x) k = rdOf ByteArray.empty (tops j x) 0 := by
  induction j with
  | zero =>
    intro x i k hx hi hn
    have h0 : i = 0 := by simpa using hi
    subst h0
    rfl
  | succ j ih =>
    intro x i k hx hi hn
    have hx2 : x.length = 2 * 2 ^ j := by rw [hx, Nat.pow_succ]; omega
    have hi2 : i < 2 * 2 ^ j := by rw [Nat.pow_succ] at hi; omega
    have hb : jb n k = (i % 2 == 1) := by unfold jb; rw [← hn]
    have h2 : i / 2 < 2 ^ j := by omega
    have hn2 : i / 2 = n / 2 ^ (k + 1) := by rw [hn, Nat.pow_succ, Nat.div_div_eq_div_mul]
    have hl : (up1 x).length = 2 ^ j := up1_length _ _ hx2
    have hg := up1_get _ x hx2 (i / 2) h2 (by omega) (by omega) (by omega)
    have e : (if jb n k then D (rdOf ByteArray.empty x (bes i : Int) ++ rdOf ByteArray.empty x (i : Int)) else D (rdOf ByteArray.empty x (i : Int) ++ rdOf ByteArray.empty x (bes i : Int))) = rdOf ByteArray.empty (up1 x) ((i / 2 : Nat) : Int) := by
      rw [rdOf_get (i := i / 2) (by omega), hg, hb, rdOf_get (i := i) (by omega), rdOf_get (i := bes i) (by rw [hx2]; exact bes_lt hi2)]
      by_cases c : i % 2 = 0
      · have c1 : bes i = 2 * (i / 2) + 1 := by unfold bes; rw [if_pos c]; omega
        have c2 : i = 2 * (i / 2) := by omega
        rw [if_neg (by simp [c])]
        simp only [c1]
        congr 2
        simp only [← c2]
      · have c1 : bes i = 2 * (i / 2) := by unfold bes; rw [if_neg c]; omega
        have c2 : i = 2 * (i / 2) + 1 := by omega
        rw [if_pos (by simp; omega)]
        simp only [c1]
        congr 2
        simp only [← c2]
    simp only [up, sides, tops]
    rw [e]
    exact ih (up1 x) (i / 2) (k + 1) hl h2 hn2
theorem hashes_get {l : List BA} {i : Nat} (h : l.length ≤ 32) (hi : i < l.length) : rdOf ByteArray.empty (hashes l) (i : Int) = D l[i] := by
  rw [rdOf_get (by rw [hashes_length h]; exact lg_lt h hi)]
  unfold hashes
  simp only [List.getElem_append, List.length_map, hi, dite_true, List.getElem_map]
theorem fold_root {l : List BA} {i : Nat} (h : l.length ≤ 32) (hi : i < l.length) : foldB l[i] (i : Int) (branch l (i : Int)) = root l := by
  have hc : l.length ≤ 32 ∧ 0 ≤ (i : Int) ∧ (i : Int) < (l.length : Int) := ⟨h, by omega, by omega⟩
  have h5 := (np_facts l.length (by omega)).2.1
  unfold foldB root
  rw [branch_length hc, if_pos h, if_pos ⟨h5, by omega, by have := lg_lt h hi; omega⟩, ← hashes_get h hi, Int.toNat_natCast]
  unfold branch
  rw [if_pos hc, Int.toNat_natCast]
  exact up_sides i _ _ i 0 (hashes_length h) (lg_lt h hi) (by simp)
end Go.Proofs.YtmiiknkfhiecgaaDoor.Tree
end
section
namespace Go.Proofs.YtmiiknkfhiecgaaDoor.Pf
open Go.RowKit Go.Proofs.YtmiiknkfhiecgaaDoorW.PrintWords Go.Proofs.YtmiiknkfhiecgaaDoorW.PrintLast Go.Proofs.YtmiiknkfhiecgaaDoorW.PrintMore
attribute [local go_sem] max2_int min2_int max_two min_two max_three min_three max_four min_four   -- for this text's walks alone
set_option linter.unusedVariables false
set_option linter.unusedSimpArgs false
/-! ### spec_DrawPlaces: function 28 -/
def spec_DrawPlaces.l0 : Nat → List Int → Int → List Int → Int → Int → Option (List Int)
 | 0, _, _, _, _, _ => none
 | k + 1, x4, x5, x350000, x350001, x350002 => if x5 < 12 then ((spec_l01Below.f x350000 x350001 x350002 10000).bind fun bt356 => (if x4.length < 17592186044416 then (spec_DrawPlaces.l0 k (x4 ++ [bt356.1]) (wrap64 (x5 + 1)) x350000 bt356.2.1 bt356.2.2) else (none))) else (some x4)
def spec_DrawPlaces.f (k : Nat) (l0 : List Int) : Option (List Int) := (spec_l01New.f k l0).bind fun bt346 => ((spec_l01Byte.f bt346.1 bt346.2.1 bt346.2.2).bind fun bt350 => (spec_DrawPlaces.l0 k (([] : List Int)) 0 bt346.1 bt350.2.1 bt350.2.2))
theorem spec_DrawPlaces.mono_l : ∀ k, (∀ y0 y1 y2 y3 y4, LeO (spec_DrawPlaces.l0 k y0 y1 y2 y3 y4) (spec_DrawPlaces.l0 (k + 1) y0 y1 y2 y3 y4))
 | 0 => fun _ _ _ _ _ r h => by simp [spec_DrawPlaces.l0] at h
 | k + 1 => by
  have ih0 := spec_DrawPlaces.mono_l k
  ·intro y0 y1 y2 y3 y4
   unfold spec_DrawPlaces.l0
   repeat' first
   | (with_reducible exact ih0 _ _ _ _ _)
   | (with_reducible exact spec_l01New.mono _ _)
   | (with_reducible exact LeO.refl _)
   | (with_reducible exact LeO.none _)
   | (with_reducible refine LeO.ite ?_ ?_)
   | (with_reducible refine LeO.bind ?_ (fun _ => ?_))
   | exact ih0 _ _ _ _ _
   | exact spec_l01New.mono _ _
   | exact LeO.none _
   | refine LeO.ite ?_ ?_
   | refine LeO.bind ?_ (fun _ => ?_)
theorem spec_DrawPlaces.mono : ∀ a0 k, LeO (spec_DrawPlaces.f k a0) (spec_DrawPlaces.f (k + 1) a0) := by
 intro a0 k
 have ih0 := spec_DrawPlaces.mono_l k
 unfold spec_DrawPlaces.f
 repeat' first
   | (with_reducible exact ih0 _ _ _ _ _)
   | (with_reducible exact spec_l01New.mono _ _)
   | (with_reducible exact LeO.refl _)
   | (with_reducible exact LeO.none _)
   | (with_reducible refine LeO.ite ?_ ?_)
   | (with_reducible refine LeO.bind ?_ (fun _ => ?_))
   | exact ih0 _ _ _ _ _
   | exact spec_l01New.mono _ _
   | exact LeO.none _
   | refine LeO.ite ?_ ?_
   | refine LeO.bind ?_ (fun _ => ?_)
set_option maxHeartbeats 8000000 in
set_option maxRecDepth 100000 in
theorem spec_DrawPlaces.calls (k : Nat) (A0 : Option Addr) (c0 : Nat) (l0 : List Int) (r : List Int) (w : World) (hr0 : Kd.C (Kd.int .u8) w A0 l0.length l0) (hc0 : l0.length ≤ c0) (h : spec_DrawPlaces.f k l0 = some r) :
  Calls Tryd.prog 28 #[.slice A0 l0.length c0] w fun e w' => ∃ v0_ : Value, e = .returned (v0_) ∧ Kd.R (Kd.int .i64) 3 w' w.heap.size (fun _ => True) v0_ r ∧ Below w.heap.size w w' := by
 have HR0 := Aside0.mk hr0
 have HC0 := Aside0.mk hc0
 clear hr0 hc0
 have HB := Aside0.mk (Below.refl w.heap.size w)
 have H : ((spec_l01New.f k l0).bind fun bt346 => ((spec_l01Byte.f bt346.1 bt346.2.1 bt346.2.2).bind fun bt350 => (spec_DrawPlaces.l0 k (([] : List Int)) 0 bt346.1 bt350.2.1 bt350.2.2))) = some r := h
 clear h
 replace H := Option.bind_eq_some_iff.mp H
 obtain ⟨⟨t346, t347, t348⟩, A20, H⟩ := H
 replace H : ((spec_l01Byte.f t346 t347 t348).bind fun bt350 => (spec_DrawPlaces.l0 k (([] : List Int)) 0 t346 bt350.2.1 bt350.2.2)) = some r := H
 have A2 := Aside0.mk A20
 clear A20
 replace H := Option.bind_eq_some_iff.mp H
 obtain ⟨⟨t350, t351, t352⟩, A30, H⟩ := H
 replace H : (spec_DrawPlaces.l0 k (([] : List Int)) 0 t346 t351 t352) = some r := H
 have A3 := Aside0.mk A30
 clear A30
 obtain ⟨y353, hy353⟩ : ∃ y_ : List Int, y_ = (([] : List Int)) := ⟨_, rfl⟩
 replace H : (spec_DrawPlaces.l0 k y353 0 t346 t351 t352) = some r := by first | (rw [hy353]; with_reducible exact H) | (have H2_ := (Option.bind_some _ _).symm.trans H; rw [hy353]; with_reducible exact H2_) | (have H2_ := (Option.bind_some _ _).symm.trans H; with_reducible exact H2_) | with_reducible exact H | (rw [hy353]; exact H) | exact H
 have Ny353 := Aside0.mk hy353
 clear hy353
 have H' := Aside0.mk H
 clear H
 go_enter Tryd.func28, Tryd.ntmps28
 go_wp2_with (first | ((with_reducible refine gate_callee (f := 59) rfl ?_); refine goesL_ (some 7) rfl rfl Tryd.func59 (by kernel_rfl) rfl #[.slice A0 l0.length c0] rfl (by (try simp only [List.map_toArray, List.map_cons, List.map_nil]); first | done | rfl | (simp only [List.length_drop, List.length_take]; rfl)) ?_; (with_reducible refine (spec_l01New.calls k _ _ l0 t346 t347 t348 w _ ?side1 ?side2 ?side3 A2.out).mono ?_); (case side1 => repeat (first | (with_reducible first | exact HB.out | apply below_alloc | apply pw_below_drewN | apply below_drew1) | exact HB.out)); (case side2 => exact HR0.out); (case side3 => exact HC0.out); rintro e w4 ⟨g349, rfl, hi, hb, hb2⟩; refine ⟨_, rfl, ?_⟩; replace HB := Aside0.mk (hb); have HI349 := Aside0.mk (hi); (try clear hb); (try clear hb2); (try clear hk); (try clear hi)) | ((with_reducible refine gate_callee (f := 62) rfl ?_); refine goesL_ (some 9) rfl rfl Tryd.func62 (by kernel_rfl) rfl #[.pointer (some ⟨g349, 0, none⟩)] rfl (by (try simp only [List.map_toArray, List.map_cons, List.map_nil]); first | done | rfl | (simp only [List.length_drop, List.length_take]; rfl)) ?_; (with_reducible refine (spec_l01Byte.calls g349 t346 t347 t348 t350 t351 t352 w _ ?side1 ?side2 A3.out).mono ?_); (case side1 => repeat (first | (with_reducible first | exact HI349.out | apply IsS93.alloc | apply IsS93.drewN | apply IsS93.drew | apply IsS93.set_1 | apply IsS93.set_2) | exact HI349.out)); (case side2 => repeat (first | (with_reducible first | exact HB.out | apply below_alloc | apply pw_below_drewN | apply below_drew1 | refine below_set ?_ (IsS93.ge HI349.out)) | exact HB.out)); rintro e w5 ⟨rfl, hi, hb, hk⟩; refine ⟨_, rfl, ?_⟩; replace HB := Aside0.mk (hb); replace HI349 := Aside0.mk (hi); (try clear hb); (try clear hb2); (try clear hk); (try clear hi)) | ((with_reducible refine gate_dst (N := 10) rfl ?_); refine Kd.R_lit (Kd.int .i64) _ 3 ?hg (N := 10) ?hd (xs := ([] : List Int)) (inner := []) (ok := fun _ => True) (okp := fun _ => True) ?hr ?hp (fun _ hk => hk) trivial (Below.refl _ _) (Nat.le_refl _) (by simp) ?_; (case hd => rfl); (case hg => rfl); (case hr => first | (go_simp; done) | (go_simp; rfl)); (case hp => exact (Reps.none _ _)); intro v354 w6 ho7 hb hg_ hnew_; clear hg_ hnew_; (first | rw [← Ny353.out] at ho7 | (simp only [Int.reduceToNat] at ho7; rw [← Ny353.out] at ho7)); have HO355 := Aside0.mk (Kd.R_lower ho7 (below_size (by repeat (first | (with_reducible first | exact HB.out | apply below_alloc | apply pw_below_drewN | apply below_drew1 | refine below_set ?_ (IsS93.ge HI349.out)) | exact HB.out)))); replace HB := Aside0.mk (below_step (by repeat (first | (with_reducible first | exact HB.out | apply below_alloc | apply pw_below_drewN | apply below_drew1 | refine below_set ?_ (IsS93.ge HI349.out)) | exact HB.out)) hb); replace HI349 := Aside0.mk (IsS93.below (by repeat (first | (with_reducible first | exact HI349.out | apply IsS93.alloc | apply IsS93.drewN | apply IsS93.drew | apply IsS93.set_1 | apply IsS93.set_2) | exact HI349.out)) hb); clear hb ho7))
 go_loopg [4, 5] k (fun kq v4 v5 w' => ∃ (x4_1 : List Int) (x5_1 : Int) (x350001_1 : Int) (x350002_1 : Int), v5 = .int .i64 x5_1 ∧ Aside0 (spec_DrawPlaces.l0 kq x4_1 x5_1 t346 x350001_1 x350002_1 = some r) ∧ Aside0 (kq ≤ k) ∧ Aside0 (Kd.R (Kd.int .i64) 3 w' w.heap.size (fun _ => True) v4 x4_1) ∧ Aside0 (IsS93 w w' g349 t346 x350001_1 x350002_1) ∧ Aside0 (Below w.heap.size w w'))
 case atStart => exact ⟨(y353), (0), (t351), (t352), (by first | rfl | (simp; done) | (simp [*]; done)), H', ⟨Nat.le_refl _⟩, ⟨by (with_reducible repeat (first | apply Kd.R_alloc | apply Kd.R_drewN | apply Kd.R_drew)); exact HO355.out⟩, ⟨by repeat (first | (with_reducible first | exact HI349.out | apply IsS93.alloc | apply IsS93.drewN | apply IsS93.drew | apply IsS93.set_1 | apply IsS93.set_2) | exact HI349.out)⟩, ⟨by repeat (first | (with_reducible first | exact HB.out | apply below_alloc | apply pw_below_drewN | apply below_drew1 | refine below_set ?_ (IsS93.ge HI349.out)) | exact HB.out)⟩⟩
 case round =>
  clear H'
  try clear c2
  try clear p2
  try clear c5
  try clear c6
  obtain ⟨x4_1, x5_1, x350001_1, x350002_1, rfl, HA, HK1, HO_4, HI349, HB⟩ := hrel
  cases gk with
  | zero => exact absurd HA.out (by simp [spec_DrawPlaces.l0])
  | succ k1 =>
   have H := HA.out
   clear HA
   simp only [spec_DrawPlaces.l0] at H
   by_cases c8 : x5_1 < 12
   ·rw [if_pos c8] at H
    have c8b0 : decide (x5_1 < 12) = true := decide_eq_true c8
    clear c8
    replace H := Option.bind_eq_some_iff.mp H
    obtain ⟨⟨t356, t357, t358⟩, A90, H⟩ := H
    replace H : (if x4_1.length < 17592186044416 then (spec_DrawPlaces.l0 k1 (x4_1 ++ [t356]) (wrap64 (x5_1 + 1)) t346 t357 t358) else (none)) = some r := H
    have A9 := Aside0.mk A90
    clear A90
    by_cases c10 : x4_1.length < 17592186044416
    ·rw [if_pos c10] at H
     have LMc10 := Aside0.mk c10
     clear c10
     obtain ⟨y359, hy359⟩ : ∃ y_ : List Int, y_ = (x4_1 ++ [t356]) := ⟨_, rfl⟩
     replace H : (spec_DrawPlaces.l0 k1 y359 (wrap64 (x5_1 + 1)) t346 t357 t358) = some r := by first | (rw [hy359]; with_reducible exact H) | (have H2_ := (Option.bind_some _ _).symm.trans H; rw [hy359]; with_reducible exact H2_) | (have H2_ := (Option.bind_some _ _).symm.trans H; with_reducible exact H2_) | with_reducible exact H | (rw [hy359]; exact H) | exact H
     have Ny359 := Aside0.mk hy359
     clear hy359
     have H' := Aside0.mk H
     clear H
     go_wp2_with (first | ((with_reducible refine gate_callee (f := 60) rfl ?_); refine goesL_ (some 17) rfl rfl Tryd.func60 (by kernel_rfl) rfl #[.pointer (some ⟨g349, 0, none⟩), .int .i64 10000] rfl (by (try simp only [List.map_toArray, List.map_cons, List.map_nil]); first | done | rfl | (simp only [List.length_drop, List.length_take]; rfl)) ?_; (with_reducible refine (spec_l01Below.calls g349 t346 x350001_1 x350002_1 10000 t356 t357 t358 w _ ?side1 ?side2 A9.out).mono ?_); (case side1 => repeat (first | (with_reducible first | exact HI349.out | apply IsS93.alloc | apply IsS93.drewN | apply IsS93.drew | apply IsS93.set_1 | apply IsS93.set_2) | exact HI349.out)); (case side2 => repeat (first | (with_reducible first | exact HB.out | apply below_alloc | apply pw_below_drewN | apply below_drew1 | refine below_set ?_ (IsS93.ge HI349.out)) | exact HB.out)); rintro e w11 ⟨rfl, hi, hb, hk⟩; refine ⟨_, rfl, ?_⟩; replace HO_4 := Aside0.mk (Kd.R_mono (Kd.R_keep (IsS93.apart (show IsS93 w _ g349 t346 x350001_1 x350002_1 from by repeat (first | (with_reducible first | exact HI349.out | apply IsS93.alloc | apply IsS93.drewN | apply IsS93.drew | apply IsS93.set_1 | apply IsS93.set_2) | exact HI349.out)) (by (with_reducible repeat (first | apply Kd.R_alloc | apply Kd.R_drewN | apply Kd.R_drew)); exact HO_4.out) (by decide)) hk (fun _ h => h.2)) (fun _ h => h.1)); replace HB := Aside0.mk (hb); replace HI349 := Aside0.mk (hi); (try clear hb); (try clear hb2); (try clear hk); (try clear hi)) | ((with_reducible refine gate_builtin (b := .append) (xs := #[.tmp 15, .tmp 18]) rfl ?_); at_builtin; refine Kd.R_append (Kd.int .i64) (w0 := w) w.heap.size rfl (.tmp 15) (.tmp 18) 42 3 (.int .i64 0) 8 rfl Tryd.underlying42 info3 rfl (by decide) (by omega) u4 x4_1 t356 [.int .i64 t356] (fun _ => True) (fun _ => False) rfl rfl ?aP (fun _ hk => hk.elim) ?aF ?aO ?aB ?aS ?aL ?_; (case aP => exact rfl); (case aB => exact (by repeat (first | (with_reducible first | exact HB.out | apply below_alloc | apply pw_below_drewN | apply below_drew1 | refine below_set ?_ (IsS93.ge HI349.out)) | exact HB.out))); (case aF => exact (fun _ _ => trivial)); (case aO => exact (by (with_reducible repeat (first | apply Kd.R_alloc | apply Kd.R_drewN | apply Kd.R_drew)); exact HO_4.out)); (case aS => exact (below_size (by repeat (first | (with_reducible first | exact HB.out | apply below_alloc | apply pw_below_drewN | apply below_drew1 | refine below_set ?_ (IsS93.ge HI349.out)) | exact HB.out)))); (case aL => have := LMc10.out; omega); intro v360 w12 ho hb hg hat; rw [← Ny359.out] at ho; replace HI349 := Aside0.mk (IsS93.grown (by repeat (first | (with_reducible first | exact HI349.out | apply IsS93.alloc | apply IsS93.drewN | apply IsS93.drew | apply IsS93.set_1 | apply IsS93.set_2) | exact HI349.out)) hg (IsS93.own_ne HI349.out HO_4.out (by decide))); replace HB := Aside0.mk (hb); have HO361 := Aside0.mk (ho); clear HO_4; clear ho hb hg hat))
     go_roundg k1
     case measure => have := HK1.out; omega
     case rel => exact ⟨(y359), (wrap64 (x5_1 + 1)), (t357), (t358), (by first | rfl | (simp; done) | (simp [*]; done)), H', ⟨by have := HK1.out; omega⟩, ⟨by (with_reducible repeat (first | apply Kd.R_alloc | apply Kd.R_drewN | apply Kd.R_drew)); exact HO361.out⟩, ⟨by repeat (first | (with_reducible first | exact HI349.out | apply IsS93.alloc | apply IsS93.drewN | apply IsS93.drew | apply IsS93.set_1 | apply IsS93.set_2) | exact HI349.out)⟩, ⟨by repeat (first | (with_reducible first | exact HB.out | apply below_alloc | apply pw_below_drewN | apply below_drew1 | refine below_set ?_ (IsS93.ge HI349.out)) | exact HB.out)⟩⟩
    ·rw [if_neg c10] at H
     exact absurd H (by simp)
   ·rw [if_neg c8] at H
    have c8b0 : decide (x5_1 < 12) = false := decide_eq_false c8
    clear c8
    obtain rfl := Option.some.inj H
    go_wp2
    go_ret
    exact ⟨_, by first | rfl | (simp [errW_none, errW_some] <;> rfl) | (simp [*, errW_none, errW_some] <;> rfl), by (with_reducible repeat (first | apply Kd.R_alloc | apply Kd.R_drewN | apply Kd.R_drew)); exact HO_4.out, by repeat (first | (with_reducible first | exact HB.out | apply below_alloc | apply pw_below_drewN | apply below_drew1 | refine below_set ?_ (IsS93.ge HI349.out)) | exact HB.out)⟩
end Go.Proofs.YtmiiknkfhiecgaaDoor.Pf
end
section
/- What is proved here: the reference's reader of draws always answers, and its numbers lie where they should. No conditions but that the bytes are no longer than a Go slice can be. -/
set_option linter.unusedVariables false
set_option linter.unusedSimpArgs false
namespace Go.Proofs.YtmiiknkfhiecgaaDoor.Draw
open Go.RowKit Go.Proofs.YtmiiknkfhiecgaaDoor.Pf Go.Proofs.YtmiiknkfhiecgaaDoorW.PrintWords

theorem wrapd {i : Int} (h0 : -9223372036854775808 ≤ i) (h : i ≤ 9223372036854775807) : wrap64 i = i := by
  unfold wrap64; omega
theorem Ev.one {α : Type} {g : Nat → Option α} {r : α} (h : ∀ k, g (k + 1) = some r) : Ev g r :=
  ⟨1, fun k hk => by obtain ⟨k, rfl⟩ : ∃ m, k = m + 1 := ⟨k - 1, by omega⟩; exact h k⟩
theorem and_255 (x : Int) : 0 ≤ Go.bits .and .i64 x 255 ∧ Go.bits .and .i64 x 255 ≤ 255 := by
  have h : (BitVec.ofInt (IntKind.bits .i64) 255).toNat = 255 := by decide
  simp only [Go.bits, BitVec.toNat_and, h]
  generalize (BitVec.ofInt _ x).toNat = a
  have : a &&& 255 ≤ 255 := Nat.and_le_right
  rw [IntKind.wrap_i64]
  omega
/-- a reader's state: its place lies in the bytes -/
def Okc (b : List Int) (i : Int) : Prop := 0 ≤ i ∧ i ≤ 9223372036854775807 ∧ b.length ≤ 9223372036854775807
theorem byte_some (b : List Int) (i h : Int) (ho : Okc b i) : ∃ x i' h', spec_l01Byte.f b i h = some (x, i', h') ∧ 0 ≤ x ∧ x ≤ 255 ∧ Okc b i' := by
  obtain ⟨h0, h1, h2⟩ := ho
  unfold spec_l01Byte.f
  by_cases c : i < (b.length : Int)
  · rw [if_pos c, if_pos h0, wrapd (i := i + 1) (by omega) (by omega)]
    exact ⟨_, _, _, rfl, (and_255 _).1, (and_255 _).2, by omega, by omega, h2⟩
  · rw [if_neg c]
    exact ⟨_, _, _, rfl, (and_255 _).1, (and_255 _).2, h0, h1, h2⟩
theorem below_some (b : List Int) (i h n : Int) (ho : Okc b i) (hn : 0 < n) (hn2 : n ≤ 4294967296) : ∃ x i' h', spec_l01Below.f b i h n = some (x, i', h') ∧ 0 ≤ x ∧ x < n ∧ Okc b i' := by
  unfold spec_l01Below.f
  rw [if_neg (by omega)]
  by_cases c : n ≤ 256
  · obtain ⟨x, i1, h1, e1, x0, x1, o1⟩ := byte_some b i h ho
    rw [if_pos c, e1]
    simp only [Option.bind_some]
    rw [if_neg (by omega)]
    exact ⟨_, _, _, rfl, Int.tmod_nonneg _ x0, Int.tmod_lt_of_pos _ hn, o1⟩
  · obtain ⟨x, i1, h1, e1, x0, x1, o1⟩ := byte_some b i h ho
    obtain ⟨y, i2, h2, e2, y0, y1, o2⟩ := byte_some b i1 h1 o1
    obtain ⟨z, i3, h3, e3, z0, z1, o3⟩ := byte_some b i2 h2 o2
    obtain ⟨u, i4, h4, e4, u0, u1, o4⟩ := byte_some b i3 h3 o3
    rw [if_neg c]
    simp only [e1, e2, e3, e4, Option.bind_some]
    rw [if_neg (by omega), wrapd (i := x * 16777216) (by omega) (by omega), wrapd (i := y * 65536) (by omega) (by omega), wrapd (i := z * 256) (by omega) (by omega), wrapd (i := x * 16777216 + y * 65536) (by omega) (by omega), wrapd (i := x * 16777216 + y * 65536 + z * 256) (by omega) (by omega), wrapd (by omega) (by omega)]
    exact ⟨_, _, _, rfl, Int.tmod_nonneg _ (by omega), Int.tmod_lt_of_pos _ hn, o4⟩
theorem new_l0 (b : List Int) (hb : b.length ≤ 9223372036854775807) : ∀ (d i : Nat) (h : Int), i + d = b.length → ∃ h', Ev (fun k => spec_l01New.l0 k b h (i : Int)) (b, 0, h')
  | 0, i, h, hi => ⟨h, Ev.one fun k => by
      simp only [spec_l01New.l0]
      rw [if_neg (by omega)]⟩
  | d + 1, i, h, hi => by
    by_cases c : (i : Int) < 4000
    · obtain ⟨h', he⟩ := new_l0 b hb d (i + 1) (Go.bits .and .i64 (wrap64 ((wrap64 ((wrap64 (h * 131)) + (wrap64 (rd b (i : Int))))) + 7)) 1073741823) (by omega)
      refine ⟨h', Ev.step (fun k => ?_) he⟩
      simp only [spec_l01New.l0]
      rw [if_pos (by omega), if_pos c, if_pos (by omega), wrapd (i := (i : Int) + 1) (by omega) (by omega)]
      rfl
    · refine ⟨h, Ev.one fun k => ?_⟩
      simp only [spec_l01New.l0]
      rw [if_pos (by omega), if_neg c]
theorem new_ev (b : List Int) (hb : b.length ≤ 9223372036854775807) : ∃ h, Ev (fun k => spec_l01New.f k b) (b, 0, h) := by
  obtain ⟨h, he⟩ := new_l0 b hb b.length 0 (wrap64 (76801 + (b.length : Int))) (by omega)
  exact ⟨h, he⟩
theorem ok0 (b : List Int) (hb : b.length ≤ 9223372036854775807) : Okc b 0 := ⟨by omega, by omega, hb⟩
theorem once_some (b : List Int) (i h n : Int) (ho : Okc b i) (hn : 0 < n) (hn2 : n ≤ 4294967296) : ∃ x i' h', spec_l01Once.f b i h n = some (x, i', h') ∧ Okc b i' := by
  obtain ⟨x, i1, h1, e1, _, _, o1⟩ := below_some b i h n ho hn hn2
  exact ⟨x == 0, i1, h1, by simp only [spec_l01Once.f, e1, Option.bind_some], o1⟩
theorem pick_some (b : List Int) (i h : Int) (l : List Int) (ho : Okc b i) (hl : 0 < l.length) (hl2 : l.length ≤ 1000) : ∃ x i' h', spec_l01PickInt.f b i h l = some (x, i', h') ∧ x ∈ l ∧ Okc b i' := by
  obtain ⟨x, i1, h1, e1, x0, x1, o1⟩ := below_some b i h (l.length : Int) ho (by omega) (by omega)
  have hx : x.toNat < l.length := by omega
  refine ⟨rd l x, i1, h1, ?_, ?_, o1⟩
  · simp only [spec_l01PickInt.f, e1, Option.bind_some]
    rw [if_pos x0, if_pos x1]
  · unfold rd
    rw [List.getD_eq_getElem?_getD, List.getElem?_eq_getElem hx, Option.getD_some]
    exact List.getElem_mem hx
theorem places_l0 (b : List Int) : ∀ (d : Nat) (j : Nat) (xs : List Int) (i h : Int), j + d = 12 → xs.length = j → (∀ x ∈ xs, 0 ≤ x ∧ x ≤ 9999) → Okc b i →
    ∃ ys : List Int, ys.length = 12 ∧ (∀ x ∈ ys, 0 ≤ x ∧ x ≤ 9999) ∧ Ev (fun k => spec_DrawPlaces.l0 k xs (j : Int) b i h) ys
  | 0, j, xs, i, h, hj, hl, hx, ho => ⟨xs, by omega, hx, Ev.one fun k => by
      simp only [spec_DrawPlaces.l0]
      rw [if_neg (by omega)]⟩
  | d + 1, j, xs, i, h, hj, hl, hx, ho => by
    obtain ⟨x, i1, h1, e1, x0, x1, o1⟩ := below_some b i h 10000 ho (by decide) (by decide)
    obtain ⟨ys, y1, y2, y3⟩ := places_l0 b d (j + 1) (xs ++ [x]) i1 h1 (by omega) (by simp [hl]) (fun z hz => by
      rcases List.mem_append.1 hz with hz | hz
      · exact hx z hz
      · rw [List.mem_singleton.1 hz]; omega) o1
    refine ⟨ys, y1, y2, Ev.step (fun k => ?_) y3⟩
    simp only [spec_DrawPlaces.l0]
    rw [if_pos (by omega), e1, Option.bind_some, if_pos (by omega), wrapd (by omega) (by omega)]
    rfl
theorem places_ev (b : List Int) (hb : b.length ≤ 9223372036854775807) : ∃ ys : List Int, ys.length = 12 ∧ (∀ x ∈ ys, 0 ≤ x ∧ x ≤ 9999) ∧ Ev (fun k => spec_DrawPlaces.f k b) ys := by
  obtain ⟨h, K1, e1⟩ := new_ev b hb
  obtain ⟨x, i1, h1, e2, _, _, o1⟩ := byte_some b 0 h (ok0 b hb)
  obtain ⟨ys, y1, y2, K2, y3⟩ := places_l0 b 12 0 [] i1 h1 (by omega) rfl (fun z hz => by cases hz) o1
  refine ⟨ys, y1, y2, K1 + K2, fun k hk => ?_⟩
  have g1 := e1 k (by omega)
  have g2 := y3 k (by omega)
  dsimp only at g1 g2 ⊢
  simp only [spec_DrawPlaces.f, g1, Option.bind_some, e2]
  exact g2
end Go.Proofs.YtmiiknkfhiecgaaDoor.Draw
end
section
/- What is proved here: drawn texts, places and leaves always answer, and none is long. No conditions but that the bytes are no longer than a Go slice can be. -/
set_option linter.unusedVariables false
set_option linter.unusedSimpArgs false
namespace Go.Proofs.YtmiiknkfhiecgaaDoor.Draw
open Go.RowKit Go.Proofs.YtmiiknkfhiecgaaDoor.Pf Go.Proofs.YtmiiknkfhiecgaaDoorW.PrintWords
theorem text_l0 (b : List Int) (n : Nat) (hn : n ≤ 5000) : ∀ (d j : Nat) (xs : List Int) (i h : Int), j + d = n → xs.length = j → Okc b i →
    ∃ t i' h', (∀ k, d < k → spec_l01Text.l0 k (n : Int) xs (j : Int) b i h = some (t, i', h')) ∧ t.size = n ∧ Okc b i'
  | 0, j, xs, i, h, hj, hl, ho => by
    refine ⟨strOfNums xs, i, h, fun k hk => ?_, by rw [strOfNums_size]; omega, ho⟩
    obtain ⟨k, rfl⟩ : ∃ m, k = m + 1 := ⟨k - 1, by omega⟩
    simp only [spec_l01Text.l0]
    rw [if_neg (by omega)]
  | d + 1, j, xs, i, h, hj, hl, ho => by
    obtain ⟨x, i1, h1, e1, _, _, o1⟩ := byte_some b i h ho
    obtain ⟨t, i2, h2, e2, s2, o2⟩ := text_l0 b n hn d (j + 1) (xs ++ [x % 256]) i1 h1 (by omega) (by simp [hl]) o1
    refine ⟨t, i2, h2, fun k hk => ?_, s2, o2⟩
    obtain ⟨k, rfl⟩ : ∃ m, k = m + 1 := ⟨k - 1, by omega⟩
    simp only [spec_l01Text.l0]
    rw [if_pos (by omega), e1, Option.bind_some, if_pos (by omega), wrapd (by omega) (by omega), show (j : Int) + 1 = ((j + 1 : Nat) : Int) by omega]
    exact e2 k (by omega)
theorem text_some (b : List Int) (i h n : Int) (h0 : 0 ≤ n) (hn : n ≤ 5000) (ho : Okc b i) :
    ∃ t i' h', (∀ k, 6000 ≤ k → spec_l01Text.f k b i h n = some (t, i', h')) ∧ (t.size : Int) = n ∧ Okc b i' := by
  obtain ⟨t, i1, h1, e1, s1, o1⟩ := text_l0 b n.toNat (by omega) n.toNat 0 [] i h (by omega) rfl ho
  refine ⟨t, i1, h1, fun k hk => ?_, by omega, o1⟩
  obtain ⟨k, rfl⟩ : ∃ m, k = m + 1 := ⟨k - 1, by omega⟩
  unfold spec_l01Text.f
  rw [if_neg (by omega)]
  simp only [spec_l01Text.j0]
  have h3 := e1 k (by omega)
  rw [show ((n.toNat : Nat) : Int) = n by omega] at h3
  exact h3
theorem leaves_l0 (b : List Int) : ∀ (d j : Nat) (xs : List ByteArray) (i h : Int), j + d = 9 → xs.length = j → (∀ y ∈ xs, y.size ≤ 5) → Okc b i →
    ∃ ys i' h', (∀ k, 6000 + d < k → spec_l10Leaves.l0 k xs (j : Int) b i h = some (ys, i', h')) ∧ ys.length ≤ 33 ∧ (∀ y ∈ ys, y.size ≤ 5) ∧ Okc b i' := by
  intro d
  induction d with
  | zero =>
    intro j xs i h hj hl hs ho
    obtain ⟨n, i1, h1, e1, n0, n1, o1⟩ := below_some b i h 9 ho (by decide) (by decide)
    obtain ⟨c, i2, h2, e2, o2⟩ := once_some b i1 h1 12 o1 (by decide) (by decide)
    by_cases hc : c = true
    · obtain ⟨m, i3, h3, e3, m0, m1, o3⟩ := below_some b i2 h2 2 o2 (by decide) (by decide)
      refine ⟨List.replicate (32 + m).toNat (⟨#[]⟩ : ByteArray), i3, h3, fun k hk => ?_, ?_, ?_, o3⟩
      · obtain ⟨k, rfl⟩ : ∃ m, k = m + 1 := ⟨k - 1, by omega⟩
        simp only [spec_l10Leaves.l0, e1, Option.bind_some]
        rw [if_neg (by omega), e2, Option.bind_some, if_pos hc, e3, Option.bind_some, wrapd (by omega) (by omega), if_pos (by omega), if_pos (by omega)]
      · rw [List.length_replicate]; omega
      · intro y hy; rw [(List.mem_replicate.1 hy).2]; decide
    · refine ⟨xs, i2, h2, fun k hk => ?_, by omega, hs, o2⟩
      obtain ⟨k, rfl⟩ : ∃ m, k = m + 1 := ⟨k - 1, by omega⟩
      simp only [spec_l10Leaves.l0, e1, Option.bind_some]
      rw [if_neg (by omega), e2, Option.bind_some, if_neg hc]
  | succ d ih =>
    intro j xs i h hj hl hs ho
    obtain ⟨n, i1, h1, e1, n0, n1, o1⟩ := below_some b i h 9 ho (by decide) (by decide)
    by_cases c0 : (j : Int) < n
    · obtain ⟨m, i2, h2, e2, m0, m1, o2⟩ := below_some b i1 h1 5 o1 (by decide) (by decide)
      obtain ⟨t, i3, h3, e3, s3, o3⟩ := text_some b i2 h2 m m0 (by omega) o2
      obtain ⟨ys, i4, h4, e4, l4, s4, o4⟩ := ih (j + 1) (xs ++ [t]) i3 h3 (by omega) (by simp [hl]) (fun y hy => by
        rcases List.mem_append.1 hy with hy | hy
        · exact hs y hy
        · rw [List.mem_singleton.1 hy]; omega) o3
      refine ⟨ys, i4, h4, fun k hk => ?_, l4, s4, o4⟩
      obtain ⟨k, rfl⟩ : ∃ m, k = m + 1 := ⟨k - 1, by omega⟩
      simp only [spec_l10Leaves.l0, e1, Option.bind_some]
      rw [if_pos c0, e2, Option.bind_some, e3 k (by omega), Option.bind_some, if_pos (by omega), wrapd (by omega) (by omega), show (j : Int) + 1 = ((j + 1 : Nat) : Int) by omega]
      exact e4 k (by omega)
    · obtain ⟨c, i2, h2, e2, o2⟩ := once_some b i1 h1 12 o1 (by decide) (by decide)
      by_cases hc : c = true
      · obtain ⟨m, i3, h3, e3, m0, m1, o3⟩ := below_some b i2 h2 2 o2 (by decide) (by decide)
        refine ⟨List.replicate (32 + m).toNat (⟨#[]⟩ : ByteArray), i3, h3, fun k hk => ?_, ?_, ?_, o3⟩
        · obtain ⟨k, rfl⟩ : ∃ m, k = m + 1 := ⟨k - 1, by omega⟩
          simp only [spec_l10Leaves.l0, e1, Option.bind_some]
          rw [if_neg c0, e2, Option.bind_some, if_pos hc, e3, Option.bind_some, wrapd (by omega) (by omega), if_pos (by omega), if_pos (by omega)]
        · rw [List.length_replicate]; omega
        · intro y hy; rw [(List.mem_replicate.1 hy).2]; decide
      · refine ⟨xs, i2, h2, fun k hk => ?_, by omega, hs, o2⟩
        obtain ⟨k, rfl⟩ : ∃ m, k = m + 1 := ⟨k - 1, by omega⟩
        simp only [spec_l10Leaves.l0, e1, Option.bind_some]
        rw [if_neg c0, e2, Option.bind_some, if_neg hc]
theorem leaves_some (b : List Int) (i h : Int) (ho : Okc b i) :
    ∃ ys i' h', (∀ k, 6100 ≤ k → spec_l10Leaves.f k b i h = some (ys, i', h')) ∧ ys.length ≤ 33 ∧ (∀ y ∈ ys, y.size ≤ 5) ∧ Okc b i' := by
  obtain ⟨ys, i', h', e, l, s, o⟩ := leaves_l0 b 9 0 [] i h (by omega) rfl (fun y hy => by cases hy) ho
  refine ⟨ys, i', h', fun k hk => ?_, l, s, o⟩
  unfold spec_l10Leaves.f
  exact e k (by omega)
theorem place_some (b : List Int) (i h a : Int) (h0 : 0 < a) (h1 : a ≤ 1000) (ho : Okc b i) : ∃ x i' h', spec_l01Place.f b i h a = some (x, i', h') ∧ Okc b i' := by
  obtain ⟨c, i1, h1', e1, o1⟩ := once_some b i h 15 ho (by decide) (by decide)
  unfold spec_l01Place.f
  rw [e1, Option.bind_some]
  by_cases hc : c = true
  · obtain ⟨x, i2, h2, e2, _, o2⟩ := pick_some b i1 h1' [(-1), a, wrap64 (a + 1), 9223372036854775807, (-9223372036854775808)] o1 (by simp) (by simp)
    rw [if_pos hc, e2]
    exact ⟨_, _, _, rfl, o2⟩
  · obtain ⟨x, i2, h2, e2, _, _, o2⟩ := below_some b i1 h1' a o1 h0 (by omega)
    rw [if_neg hc, e2]
    exact ⟨_, _, _, rfl, o2⟩
theorem dleaves_l0 (b : List Int) : ∀ (d j : Nat) (xs : List ByteArray) (i h : Int), j + d = 9 → xs.length = j + 1 → (∀ y ∈ xs, y.size ≤ 5) → Okc b i →
    ∃ ys, (∀ k, 6000 + d < k → spec_DrawLeaves.l0 k xs (j : Int) b i h = some ys) ∧ 1 ≤ ys.length ∧ ys.length ≤ 10 ∧ (∀ y ∈ ys, y.size ≤ 5) := by
  intro d
  induction d with
  | zero =>
    intro j xs i h hj hl hs ho
    obtain ⟨n, i1, h1, e1, n0, n1, o1⟩ := below_some b i h 9 ho (by decide) (by decide)
    refine ⟨xs, fun k hk => ?_, by omega, by omega, hs⟩
    obtain ⟨k, rfl⟩ : ∃ m, k = m + 1 := ⟨k - 1, by omega⟩
    simp only [spec_DrawLeaves.l0, e1, Option.bind_some]
    rw [if_neg (by omega)]
  | succ d ih =>
    intro j xs i h hj hl hs ho
    obtain ⟨n, i1, h1, e1, n0, n1, o1⟩ := below_some b i h 9 ho (by decide) (by decide)
    by_cases c0 : (j : Int) < n
    · obtain ⟨m, i2, h2, e2, m0, m1, o2⟩ := below_some b i1 h1 5 o1 (by decide) (by decide)
      obtain ⟨t, i3, h3, e3, s3, o3⟩ := text_some b i2 h2 m m0 (by omega) o2
      obtain ⟨ys, e4, l4, l5, s4⟩ := ih (j + 1) (xs ++ [t]) i3 h3 (by omega) (by simp [hl]) (fun y hy => by
        rcases List.mem_append.1 hy with hy | hy
        · exact hs y hy
        · rw [List.mem_singleton.1 hy]; omega) o3
      refine ⟨ys, fun k hk => ?_, l4, l5, s4⟩
      obtain ⟨k, rfl⟩ : ∃ m, k = m + 1 := ⟨k - 1, by omega⟩
      simp only [spec_DrawLeaves.l0, e1, Option.bind_some]
      rw [if_pos c0, e2, Option.bind_some, e3 k (by omega), Option.bind_some, if_pos (by omega), wrapd (by omega) (by omega), show (j : Int) + 1 = ((j + 1 : Nat) : Int) by omega]
      exact e4 k (by omega)
    · refine ⟨xs, fun k hk => ?_, by omega, by omega, hs⟩
      obtain ⟨k, rfl⟩ : ∃ m, k = m + 1 := ⟨k - 1, by omega⟩
      simp only [spec_DrawLeaves.l0, e1, Option.bind_some]
      rw [if_neg c0]
theorem dleaves_ev (b : List Int) (hb : b.length ≤ 9223372036854775807) : ∃ ys, Ev (fun k => spec_DrawLeaves.f k b) ys ∧ 1 ≤ ys.length ∧ ys.length ≤ 10 ∧ (∀ y ∈ ys, y.size ≤ 5) := by
  obtain ⟨h, K, hK⟩ := new_ev b hb
  obtain ⟨ys, e, l1, l2, s⟩ := dleaves_l0 b 9 0 [(⟨#[102, 105, 114, 115, 116]⟩ : ByteArray)] 0 h (by omega) rfl (fun y hy => by rw [List.mem_singleton.1 hy]; decide) (ok0 b hb)
  refine ⟨ys, ⟨K + 6100, fun k hk => ?_⟩, l1, l2, s⟩
  have g := hK k (by omega)
  dsimp only at g
  simp only [spec_DrawLeaves.f, g, Option.bind_some]
  exact e k (by omega)
end Go.Proofs.YtmiiknkfhiecgaaDoor.Draw
end
section
/- What is proved here: each leaf of drawn leaves and what stands beside it make the root; as many levels as they need; what is drawn of the rest, the program answers as the reference. No conditions. -/
set_option linter.unusedVariables false
set_option linter.unusedSimpArgs false
namespace Go.Proofs.YtmiiknkfhiecgaaDoor.Pure
open Go.RowKit Go.Proofs.YtmiiknkfhiecgaaDoor.Pf Go.Proofs.YtmiiknkfhiecgaaDoorW.PrintWords Go.Proofs.YtmiiknkfhiecgaaDoor.Strs Go.Proofs.YtmiiknkfhiecgaaDoor.Tree Go.Proofs.YtmiiknkfhiecgaaDoor.Draw
theorem same_l0 (xs : List ByteArray) (hn : xs.length ≤ 9223372036854775807) (d : Nat) : ∀ (i : Int) (k : Nat), 0 ≤ i → (xs.length : Int) - i = d → d < k → laws_sameTexts.l0 k xs xs i = some true := by
  induction d with
  | zero =>
    intro i k h0 hd hk
    obtain ⟨k, rfl⟩ : ∃ m, k = m + 1 := ⟨k - 1, by omega⟩
    simp only [laws_sameTexts.l0]
    rw [if_neg (by omega)]
  | succ d ih =>
    intro i k h0 hd hk
    obtain ⟨k, rfl⟩ : ∃ m, k = m + 1 := ⟨k - 1, by omega⟩
    simp only [laws_sameTexts.l0]
    rw [if_pos (by omega), if_pos h0, if_pos (by omega), Strs.wrap_in (by omega) (by omega), if_pos trivial]
    exact ih (i + 1) k (by omega) (by omega) (by omega)
theorem same_f (xs : List ByteArray) (hn : xs.length ≤ 1000) (k : Nat) (hk : 1001 < k) : laws_sameTexts.f k xs xs = some true := by
  unfold laws_sameTexts.f
  rw [if_pos rfl]
  exact same_l0 xs (by omega) xs.length 0 k (by omega) (by omega) (by omega)
theorem ilev_dec : ∀ n : Nat, n < 33 → impl_LevelsOf.f 10 (n : Int) = some ((lg n : Nat) : Int) := by decide +kernel
theorem impl_lev (k : Nat) (hk : 10 ≤ k) (n : Nat) (hn : n ≤ 32) : impl_LevelsOf.f k (n : Int) = some ((lg n : Nat) : Int) :=
  at_rounds (g := fun k => impl_LevelsOf.f k (n : Int)) (fun k => impl_LevelsOf.mono (n : Int) k) hk (ilev_dec n (by omega))
theorem lev_any (k : Nat) (hk : 10 ≤ k) (n : Int) : ∃ r, impl_LevelsOf.f k n = some r ∧ spec_LevelsOf.f k n = some r := by
  by_cases c : 0 ≤ n ∧ n ≤ 32
  · obtain ⟨m, rfl⟩ : ∃ m : Nat, n = (m : Int) := ⟨n.toNat, by omega⟩
    exact ⟨_, impl_lev k hk m (by omega), spec_lev k hk m (by omega)⟩
  · refine ⟨-1, ?_, ?_⟩
    · obtain ⟨k, rfl⟩ : ∃ m, k = m + 1 := ⟨k - 1, by omega⟩
      have fj : impl_LevelsOf.j0 (k + 1) n true = some (-1) := by simp only [impl_LevelsOf.j0, if_true]
      unfold impl_LevelsOf.f
      by_cases c1 : n < 0
      · rw [if_pos c1, fj]
      · rw [if_neg c1, decide_eq_true (by omega), fj]
    · unfold spec_LevelsOf.f
      rw [l01In_f, Option.bind_some, decide_eq_false c, if_neg (by decide)]
theorem loop (k0 : Nat) (hk0 : 1000 ≤ k0) (b : List Int) (l : List ByteArray) (hl : l.length ≤ 32) (hs : ∀ y ∈ l, y.size ≤ 1048576) (r : Bool) (he : ∀ k, k0 ≤ k → laws_FnBranches.l0 (k + 1) b l (root l) (l.length : Int) = some r) : ∀ (d i k : Nat), i + d = l.length → k0 + d + 1 ≤ k → laws_FnBranches.l0 k b l (root l) (i : Int) = some r
  | 0, i, k, hi, hk => by
    obtain ⟨k, rfl⟩ : ∃ m, k = m + 1 := ⟨k - 1, by omega⟩
    rw [show i = l.length by omega]
    exact he k (by omega)
  | d + 1, i, k, hi, hk => by
    obtain ⟨k, rfl⟩ : ∃ m, k = m + 1 := ⟨k - 1, by omega⟩
    have h1 : i < l.length := by omega
    have h2 := hs _ (List.getElem_mem h1)
    simp only [laws_FnBranches.l0]
    rw [if_pos (by omega), impl_branch k (by omega) l (i : Int) hs, Option.bind_some, impl_lev k (by omega) _ hl, Option.bind_some, branch_length ⟨hl, by omega, by omega⟩, if_pos rfl, if_pos (by omega), rdOf_get h1,
      impl_fold k (by omega) _ _ _ (by omega) (fun y hy => by rw [branch_size l _ y hy]; decide), Option.bind_some, fold_root hl h1, if_pos rfl, Strs.wrap_in (by omega) (by omega), show (i : Int) + 1 = ((i + 1 : Nat) : Int) by omega]
    exact loop k0 hk0 b l hl hs r he d (i + 1) k (by omega) (by omega)
theorem foldbranch_ev (b : List Int) (hb : b.length ≤ 9223372036854775807) : ∃ x i bs, Ev (fun k => spec_DrawFoldBranch.f k b) (x, i, bs) ∧ x.size ≤ 5 ∧ ∀ y ∈ bs, y.size ≤ 32 := by
  obtain ⟨h, K, hK⟩ := new_ev b hb
  obtain ⟨ys, i1, h1, e1, l1, s1, o1⟩ := leaves_some b 0 h (ok0 b hb)
  obtain ⟨n, i2, h2, e2, n0, n1, o2⟩ := below_some b i1 h1 9 o1 (by decide) (by decide)
  have hbr : ∀ y ∈ branch ys n, y.size ≤ 32 := fun y hy => by rw [branch_size ys n y hy]; decide
  have main : ∀ x : ByteArray, x.size ≤ 5 → ∃ i bs, (∀ k, 1000 ≤ k → spec_DrawFoldBranch.j0 k n (branch ys n) x b i2 h2 = some (x, i, bs)) ∧ ∀ y ∈ bs, y.size ≤ 32 := by
    intro x hx
    obtain ⟨m, i3, h3, e3, m0, m1, o3⟩ := below_some b i2 h2 6 o2 (by decide) (by decide)
    by_cases c0 : m = 0
    · obtain ⟨p, i4, h4, e4, o4⟩ := place_some b i3 h3 31 (by decide) (by decide) o3
      refine ⟨p, _, fun k hk => ?_, hbr⟩
      obtain ⟨k, rfl⟩ : ∃ m, k = m + 1 := ⟨k - 1, by omega⟩
      simp only [spec_DrawFoldBranch.j0, e3, Option.bind_some]
      rw [if_pos c0, e4, Option.bind_some]
    by_cases c1 : m = 1
    · refine ⟨n, branch ys n ++ [(⟨#[120]⟩ : ByteArray), (⟨#[121]⟩ : ByteArray), (⟨#[122]⟩ : ByteArray)], fun k hk => ?_, ?_⟩
      · obtain ⟨k, rfl⟩ : ∃ m, k = m + 1 := ⟨k - 1, by omega⟩
        have h5 := branch_le ys n
        simp only [spec_DrawFoldBranch.j0, e3, Option.bind_some]
        rw [if_neg c0, if_pos c1, if_pos (by simp; omega)]
      · intro y hy
        rcases List.mem_append.1 hy with hy | hy
        · exact hbr y hy
        · simp only [List.mem_cons, List.not_mem_nil, or_false] at hy
          rcases hy with rfl | rfl | rfl <;> decide
    · refine ⟨n, _, fun k hk => ?_, hbr⟩
      obtain ⟨k, rfl⟩ : ∃ m, k = m + 1 := ⟨k - 1, by omega⟩
      simp only [spec_DrawFoldBranch.j0, e3, Option.bind_some]
      rw [if_neg c0, if_neg c1]
  have hbs : ∀ k, 400 ≤ k → spec_BranchOf.f k ys n = some (branch ys n) := fun k hk => spec_branch k hk ys n (by omega) (fun y hy => by have := s1 y hy; omega)
  by_cases c : n < (ys.length : Int)
  · have hx : (rdOf ByteArray.empty ys n).size ≤ 5 := by
      have h3 : n.toNat < ys.length := by omega
      have e : rdOf ByteArray.empty ys n = ys[n.toNat] := by rw [← rdOf_get h3, show ((n.toNat : Nat) : Int) = n by omega]
      rw [e]; exact s1 _ (List.getElem_mem h3)
    obtain ⟨i, bs, e3, hs⟩ := main _ hx
    refine ⟨_, i, bs, ⟨K + 7000, fun k hk => ?_⟩, hx, hs⟩
    have g := hK k (by omega)
    dsimp only at g ⊢
    simp only [spec_DrawFoldBranch.f, g, Option.bind_some, e1 k (by omega), e2, hbs k (by omega)]
    rw [if_pos c, if_pos n0]
    exact e3 k (by omega)
  · obtain ⟨i, bs, e3, hs⟩ := main (⟨#[]⟩ : ByteArray) (by decide)
    refine ⟨(⟨#[]⟩ : ByteArray), i, bs, ⟨K + 7000, fun k hk => ?_⟩, by decide, hs⟩
    have g := hK k (by omega)
    dsimp only at g ⊢
    simp only [spec_DrawFoldBranch.f, g, Option.bind_some, e1 k (by omega), e2, hbs k (by omega)]
    rw [if_neg c]
    exact e3 k (by omega)
theorem FnBranches : laws_FnBranches.Pure := by
  intro b hb
  by_cases hbig : (b.length : Int) > 1048576
  · exact ⟨0, by simp only [laws_FnBranches.f, laws_big.f, Option.bind_some]; rw [if_pos (decide_eq_true hbig)]⟩
  obtain ⟨l, ⟨K1, d1⟩, l1, l2, ls⟩ := dleaves_ev b (by omega)
  have hs : ∀ y ∈ l, y.size ≤ 1048576 := fun y hy => by have := ls y hy; omega
  obtain ⟨x, i, bs, ⟨K2, d2⟩, hx, hbs⟩ := foldbranch_ev b (by omega)
  obtain ⟨h, K, hK⟩ := new_ev b (by omega)
  obtain ⟨ys, i1, h1, e1, yl, ysz, o1⟩ := leaves_some b 0 h (ok0 b (by omega))
  obtain ⟨p, i2, h2, e2, o2⟩ := place_some b 0 h 7 (by decide) (by decide) (ok0 b (by omega))
  obtain ⟨zs, i3, h3, e3, zl, zsz, o3⟩ := leaves_some b i2 h2 o2
  obtain ⟨q, i4, h4, e4, o4⟩ := place_some b 0 h 32 (by decide) (by decide) (ok0 b (by omega))
  dsimp only at d1 d2 hK
  have hbs2 : ∀ y ∈ bs, y.size ≤ 1048576 := fun y hy => by have := hbs y hy; omega
  have hy2 : ∀ y ∈ ys, y.size ≤ 1048576 := fun y hy => by have := ysz y hy; omega
  have hz2 : ∀ y ∈ zs, y.size ≤ 1048576 := fun y hy => by have := zsz y hy; omega
  have last : ∀ k, K1 + K2 + K + 10000 ≤ k → laws_FnBranches.l0 (k + 1) b l (root l) (l.length : Int) = some true := by
    intro k hk
    obtain ⟨r, r1, r2⟩ := lev_any k (by omega) q
    have f1 : spec_DrawRootOf.f k b = some ys := by simp only [spec_DrawRootOf.f, hK k (by omega), Option.bind_some, e1 k (by omega)]
    have f2 : spec_DrawBranchOf.f k b = some (zs, p) := by simp only [spec_DrawBranchOf.f, hK k (by omega), Option.bind_some, e2, e3 k (by omega)]
    have f3 : spec_DrawLevelsOf.f k b = some q := by simp only [spec_DrawLevelsOf.f, hK k (by omega), Option.bind_some, e4]
    simp only [laws_FnBranches.l0]
    rw [if_neg (by omega), d2 k (by omega), Option.bind_some, f1, Option.bind_some, f2, Option.bind_some, f3, Option.bind_some, if_pos (by rw [root_size (by omega)]; rfl), impl_fold k (by omega) x i bs (by omega) hbs2, Option.bind_some,
      spec_fold k (by omega) x i bs (by omega) hbs2, Option.bind_some, if_pos rfl, impl_root k (by omega) ys hy2, Option.bind_some, spec_root k (by omega) ys hy2, Option.bind_some, if_pos rfl, impl_branch k (by omega) zs p hz2, Option.bind_some,
      spec_branch k (by omega) zs p (by omega) hz2, Option.bind_some, same_f _ (by have := branch_le zs p; omega) k (by omega), Option.bind_some, if_pos rfl, r1, Option.bind_some, r2, Option.bind_some, beq_self_eq_true]
  obtain ⟨k, hk⟩ : ∃ k, k = K1 + K2 + K + 20000 := ⟨_, rfl⟩
  refine ⟨k, ?_⟩
  have hlp := loop (K1 + K2 + K + 10000) (by omega) b l (by omega) hs true last l.length 0 k (by omega) (by omega)
  simp only [laws_FnBranches.f, laws_big.f, Option.bind_some]
  rw [decide_eq_false hbig, if_neg (by decide), d1 k (by omega), Option.bind_some, impl_root k (by omega) l hs, Option.bind_some]
  exact hlp
end Go.Proofs.YtmiiknkfhiecgaaDoor.Pure
end
section
/- What is proved here: a value of a Go type that reads as data opens into the print's own kinds (Kd), for whole numbers, bools, strings, slices and structs. No conditions. -/
set_option linter.unusedVariables false
set_option linter.unusedSimpArgs false
namespace Go.Proofs.YtmiiknkfhiecgaaDoor.Open
open Go.RowKit Go.Proofs.YtmiiknkfhiecgaaDoorW.PrintWords Go.ChangeShapes Go.WideShapes

def Opens (P : Program) (t : TypeId) {α : Type} (d : Kd α) (g : α → Prop) : Prop :=
  ∀ {H : Type} (enc : TypeId × Value → H) (w : World) (base : Nat) (spare : Nat → Bool) (held : Bool) (fuel : Nat) (cs : List Value) (x : DataW H × List MemPlace),
    DataW.trod enc P w base spare held fuel t cs = some x → ∃ a, d.K w a cs ∧ g a

theorem list_of {α : Type} {p : Nat → α → Prop} : ∀ n, (∀ i, i < n → ∃ y, p i y) → ∃ ys : List α, ys.length = n ∧ ∀ i y, ys[i]? = some y → p i y
  | 0, _ => ⟨[], rfl, fun i y h => by simp at h⟩
  | n + 1, h => by
    obtain ⟨ys, hl, hy⟩ := list_of n (fun i hi => h i (by omega))
    obtain ⟨y, hy'⟩ := h n (by omega)
    refine ⟨ys ++ [y], by simp [hl], fun i z hz => ?_⟩
    rcases Nat.lt_or_ge i n with hi | hi
    · rw [List.getElem?_append_left (by omega)] at hz
      exact hy i z hz
    · have h1 := (List.getElem?_eq_some_iff.1 hz).1
      rw [List.length_append, List.length_singleton] at h1
      have h2 : i = n := by omega
      subst h2
      rw [List.getElem?_append_right (by omega), hl, Nat.sub_self] at hz
      simp at hz
      subst hz
      exact hy'

section
variable {P : Program} {t : TypeId}
theorem opens_int {k : IntKind} (h : P.underlying t = some (.int k)) : Opens P t (Kd.int k) (fun n => (Lit.int k n).wf = true) := by
  intro H enc w base spare held fuel cs x hx
  obtain ⟨n, rfl, _, hw⟩ := DataW.trod_int h hx
  exact ⟨n, rfl, hw⟩
theorem opens_bool (h : P.underlying t = some .bool) : Opens P t Kd.bool (fun _ => True) := by
  intro H enc w base spare held fuel cs x hx
  obtain ⟨b, hb⟩ : ∃ b, cs = [.bool b] := by
    cases fuel with
    | zero => simp [DataW.trod] at hx
    | succ n =>
      unfold DataW.trod at hx
      rw [h] at hx
      split at hx <;> simp_all
  exact ⟨b, hb, trivial⟩
theorem opens_string (h : P.underlying t = some .string) : Opens P t Kd.string (fun s => s.size ≤ maxLen) := by
  intro H enc w base spare held fuel cs x hx
  obtain ⟨n, rfl, _, hw⟩ := DataW.trod_string h hx
  exact ⟨n, rfl, hw⟩
theorem opens_slice {e : TypeId} {α : Type} {d : Kd α} {g : α → Prop} (ht : P.underlying t = some (.slice e)) (hc : P.cellsOf e = d.sz) (he : Opens P e d g) :
    Opens P t (Kd.slice e d) (fun xs => xs.length ≤ 9223372036854775807 ∧ ∀ x ∈ xs, g x) := by
  intro H enc w base spare held fuel cs x h
  rcases Go.Deep.open_slice ht h with ⟨rfl, _⟩ | ⟨a, len, cap, m, n, D, Pl, rfl, hb, hl, hm, hmm, _, hx⟩
  · exact ⟨[], ⟨none, 0, rfl, Nat.le_refl _, Kd.C_nil d w⟩, by simp, fun x hx => by cases hx⟩
  · have hlm : len ≤ m := by rw [hmm]; split <;> omega
    obtain ⟨ys, hy1, hy2⟩ := list_of (p := fun i y => ∃ c, w.cells? base (a.add (i * P.cellsOf e)) (P.cellsOf e) = some c ∧ d.K w y c ∧ g y) len (fun i hi => by
      obtain ⟨c, h1, h2⟩ := hx i (by omega)
      obtain ⟨y, h3, h4⟩ := he _ _ _ _ _ _ _ _ h2
      exact ⟨y, c, h1, h3, h4⟩)
    unfold maxLen at hm
    refine ⟨ys, ⟨some a, cap, by rw [hy1], by omega, rfl, by omega, fun _ => ⟨a, rfl, fun j p hp => ?_⟩⟩, by omega, fun y hy => ?_⟩
    · obtain ⟨c, h1, h2, h3⟩ := hy2 j p hp
      obtain ⟨_, hlen, hcell⟩ := World.cells?_some h1
      refine ⟨c, by rw [hlen, hc], h2, fun i u hu => ?_⟩
      have hi := (List.getElem?_eq_some_iff.1 hu).1
      have := hcell i (by omega)
      rw [Go.Deep.add_add, hc] at this
      rw [this, hu]
    · obtain ⟨i, hi⟩ := List.mem_iff_getElem?.1 hy
      obtain ⟨c, h1, h2, h3⟩ := hy2 i y hi
      exact h3
theorem opens_iso {α β : Type} {d : Kd α} {g : α → Prop} (f : β → α) (mk : α → β) (hf : ∀ a, f (mk a) = a) (h : Opens P t d g) : Opens P t (Kd.iso d f) (fun x => g (f x)) := by
  intro H enc w base spare held fuel cs x hx
  obtain ⟨a, h1, h2⟩ := h enc w base spare held fuel cs x hx
  exact ⟨mk a, by show d.K w (f (mk a)) cs; rw [hf]; exact h1, by show g (f (mk a)); rw [hf]; exact h2⟩
theorem struct_field {fs : Array Field} {H : Type} {enc : TypeId × Value → H} {w : World} {base : Nat} {spare : Nat → Bool} {held : Bool} {n : Nat} {cs : List Value} {xs : List (DataW H × List MemPlace)} (hl : xs.length = fs.size)
    (hf : ∀ (i : Nat) (f : Field), fs[i]? = some f → DataW.trod enc P w base spare held n f.type ((cs.drop f.offset).take (P.cellsOf f.type)) = xs[i]?) {i : Nat} {f : Field} (hi : fs[i]? = some f) {α : Type} {d : Kd α} {g : α → Prop} (ho : Opens P f.type d g) :
    ∃ a, d.K w a ((cs.drop f.offset).take (P.cellsOf f.type)) ∧ g a := by
  have h1 := hf i f hi
  have h2 : i < xs.length := by rw [hl]; exact (Array.getElem?_eq_some_iff.1 hi).1
  rw [List.getElem?_eq_getElem h2] at h1
  exact ho _ _ _ _ _ _ _ _ h1
theorem opens_struct1 {f0 : Field} {α : Type} {d0 : Kd α} {g0 : α → Prop} (ht : P.underlying t = some (.struct #[f0])) (h0 : Opens P f0.type d0 g0)
    (s0 : P.cellsOf f0.type = d0.sz) (o0 : f0.offset = 0) (st : P.cellsOf t = d0.sz) : Opens P t d0 g0 := by
  intro H enc w base spare held fuel cs x hx
  obtain ⟨xs, n, _, _, hlen, hl, hf⟩ := DataW.trod_struct ht hx
  obtain ⟨a, ha, hg⟩ := struct_field hl hf (i := 0) (f := f0) rfl h0
  rw [o0, s0, List.drop_zero, List.take_of_length_le (by omega)] at ha
  exact ⟨a, ha, hg⟩
theorem opens_struct2 {f0 f1 : Field} {α β : Type} {d0 : Kd α} {d1 : Kd β} {g0 : α → Prop} {g1 : β → Prop} (ht : P.underlying t = some (.struct #[f0, f1])) (h0 : Opens P f0.type d0 g0) (h1 : Opens P f1.type d1 g1)
    (s0 : P.cellsOf f0.type = d0.sz) (s1 : P.cellsOf f1.type = d1.sz) (o0 : f0.offset = 0) (o1 : f1.offset = d0.sz) (st : P.cellsOf t = d0.sz + d1.sz) : Opens P t (Kd.pair d0 d1) (fun x => g0 x.1 ∧ g1 x.2) := by
  intro H enc w base spare held fuel cs x hx
  obtain ⟨xs, n, _, _, hlen, hl, hf⟩ := DataW.trod_struct ht hx
  obtain ⟨a, ha, ga⟩ := struct_field hl hf (i := 0) (f := f0) rfl h0
  obtain ⟨b, hb, gb⟩ := struct_field hl hf (i := 1) (f := f1) rfl h1
  rw [o0, s0, List.drop_zero] at ha
  rw [o1, s1, List.take_of_length_le (by rw [List.length_drop]; omega)] at hb
  exact ⟨(a, b), ⟨_, _, (List.take_append_drop d0.sz cs).symm, ha, hb⟩, ga, gb⟩
theorem opens_struct3 {f0 f1 f2 : Field} {α β γ : Type} {d0 : Kd α} {d1 : Kd β} {d2 : Kd γ} {g0 : α → Prop} {g1 : β → Prop} {g2 : γ → Prop} (ht : P.underlying t = some (.struct #[f0, f1, f2])) (h0 : Opens P f0.type d0 g0) (h1 : Opens P f1.type d1 g1) (h2 : Opens P f2.type d2 g2)
    (s0 : P.cellsOf f0.type = d0.sz) (s1 : P.cellsOf f1.type = d1.sz) (s2 : P.cellsOf f2.type = d2.sz) (o0 : f0.offset = 0) (o1 : f1.offset = d0.sz) (o2 : f2.offset = d0.sz + d1.sz) (st : P.cellsOf t = d0.sz + d1.sz + d2.sz) :
    Opens P t (Kd.pair d0 (Kd.pair d1 d2)) (fun x => g0 x.1 ∧ g1 x.2.1 ∧ g2 x.2.2) := by
  intro H enc w base spare held fuel cs x hx
  obtain ⟨xs, n, _, _, hlen, hl, hf⟩ := DataW.trod_struct ht hx
  obtain ⟨a, ha, ga⟩ := struct_field hl hf (i := 0) (f := f0) rfl h0
  obtain ⟨b, hb, gb⟩ := struct_field hl hf (i := 1) (f := f1) rfl h1
  obtain ⟨c, hc, gc⟩ := struct_field hl hf (i := 2) (f := f2) rfl h2
  rw [o0, s0, List.drop_zero] at ha
  rw [o1, s1] at hb
  rw [o2, s2, List.take_of_length_le (by rw [List.length_drop]; omega)] at hc
  refine ⟨(a, b, c), ⟨_, _, (List.take_append_drop d0.sz cs).symm, ha, _, _, (List.take_append_drop d1.sz _).symm, hb, ?_⟩, ga, gb, gc⟩
  rw [List.drop_drop]
  exact hc
theorem opens_struct4 {f0 f1 f2 f3 : Field} {α β γ δ : Type} {d0 : Kd α} {d1 : Kd β} {d2 : Kd γ} {d3 : Kd δ} {g0 : α → Prop} {g1 : β → Prop} {g2 : γ → Prop} {g3 : δ → Prop} (ht : P.underlying t = some (.struct #[f0, f1, f2, f3]))
    (h0 : Opens P f0.type d0 g0) (h1 : Opens P f1.type d1 g1) (h2 : Opens P f2.type d2 g2) (h3 : Opens P f3.type d3 g3)
    (s0 : P.cellsOf f0.type = d0.sz) (s1 : P.cellsOf f1.type = d1.sz) (s2 : P.cellsOf f2.type = d2.sz) (s3 : P.cellsOf f3.type = d3.sz) (o0 : f0.offset = 0) (o1 : f1.offset = d0.sz) (o2 : f2.offset = d0.sz + d1.sz) (o3 : f3.offset = d0.sz + d1.sz + d2.sz)
    (st : P.cellsOf t = d0.sz + d1.sz + d2.sz + d3.sz) :
    Opens P t (Kd.pair d0 (Kd.pair d1 (Kd.pair d2 d3))) (fun x => g0 x.1 ∧ g1 x.2.1 ∧ g2 x.2.2.1 ∧ g3 x.2.2.2) := by
  intro H enc w base spare held fuel cs x hx
  obtain ⟨xs, n, _, _, hlen, hl, hf⟩ := DataW.trod_struct ht hx
  obtain ⟨a, ha, ga⟩ := struct_field hl hf (i := 0) (f := f0) rfl h0
  obtain ⟨b, hb, gb⟩ := struct_field hl hf (i := 1) (f := f1) rfl h1
  obtain ⟨c, hc, gc⟩ := struct_field hl hf (i := 2) (f := f2) rfl h2
  obtain ⟨d, hd, gd⟩ := struct_field hl hf (i := 3) (f := f3) rfl h3
  rw [o0, s0, List.drop_zero] at ha
  rw [o1, s1] at hb
  rw [o2, s2] at hc
  rw [o3, s3, List.take_of_length_le (by rw [List.length_drop]; omega)] at hd
  refine ⟨(a, b, c, d), ⟨_, _, (List.take_append_drop d0.sz cs).symm, ha, _, _, (List.take_append_drop d1.sz _).symm, hb, _, _, (List.take_append_drop d2.sz _).symm, ?_, ?_⟩, ga, gb, gc, gd⟩
  · rw [List.drop_drop]
    exact hc
  · rw [List.drop_drop, List.drop_drop, ← Nat.add_assoc]
    exact hd
end
end Go.Proofs.YtmiiknkfhiecgaaDoor.Open
end
section
/- What is proved here: the listed tables, as the row's condition lays them, stand in memory; the door's own heap meets the condition. No conditions but those that each theorem names. -/
namespace Go.Proofs.YtmiiknkfhiecgaaDoor.Laid
open Go.ChangeShapes Go.WideShapes Go.ChangeAt Go.RowKit
set_option maxRecDepth 100000
theorem arr_cells {P : Program} {H : Type} {enc : TypeId × Value → H} {w : World} {spare : Nat → Bool} {held : Bool} {fuel : Nat} {t e : TypeId} {n : Nat} {k : IntKind} {cs : List Value} {L : List Int} {p : List MemPlace}
    (ht : P.underlying t = some (.array n e)) (he : P.underlying e = some (.int k)) (c1 : P.cellsOf e = 1)
    (hd : DataW.trod enc P w 0 spare held fuel t cs = some (.agg (L.map fun z => .lit (.int k z)), p)) :
    ∀ i : Nat, i < n → cs[i]? = some (.int k (Kp.ga L i)) := by
  intro i hi
  obtain ⟨xs, m, rfl, hx, hlen, hn, hel⟩ := DataW.trod_array ht hd
  have h1 := hel i hi
  rw [c1, Nat.mul_one] at h1
  have hi' : i < xs.length := hn.symm ▸ hi
  rw [List.getElem?_eq_getElem hi'] at h1
  obtain ⟨z, hz, hz2, _⟩ := DataW.trod_int he h1
  simp only [Prod.mk.injEq, DataW.agg.injEq] at hx
  have hL : (L.map fun z => (DataW.lit (.int k z) : DataW H))[i]? = (xs.map (·.1))[i]? := by rw [hx.1]
  rw [List.getElem?_map, List.getElem?_map, List.getElem?_eq_getElem hi', hz2] at hL
  have hLz : Kp.ga L i = z := by
    unfold Kp.ga
    rw [List.getD_eq_getElem?_getD]
    cases hq : L[i]? with
    | none => rw [hq] at hL; simp at hL
    | some y => rw [hq] at hL; simpa using hL
  rw [hLz]
  have h2 : ((cs.drop i).take 1)[0]? = some (.int k z) := by rw [hz]; rfl
  simpa using h2
theorem gR : Tryd.prog.globalNamed "loop.example/g00321/impl.roundConstants" = some 1 := by kernel_rfl
theorem gT : Tryd.prog.globalNamed "loop.example/g00321/impl.turns" = some 0 := by kernel_rfl
theorem tR : (Tryd.prog.globals[1]?).map (·.type) = some 96 := by kernel_rfl
theorem tT : (Tryd.prog.globals[0]?).map (·.type) = some 120 := by kernel_rfl
abbrev laidL : List (String × DataW Unit) := [("loop.example/g00321/impl.roundConstants", Rows.laid_loop_example_g00321_impl_roundConstants), ("loop.example/g00321/impl.turns", Rows.laid_loop_example_g00321_impl_turns)]
theorem cell_lt {W : World} {g i : Nat} {v : Value} (h : W.cell? ⟨g, i, none⟩ = some v) : g < W.heap.size := by
  unfold World.cell? at h
  by_cases hg : g < W.heap.size
  · exact hg
  · simp [hg] at h
theorem tab {W : World} (h : laidMetH Tryd.prog laidL W) : Kp.Tab W := by
  rw [MakeChecks.laidMetH_plain _ _ _ (by kernel_rfl)] at h
  obtain ⟨ps, ⟨g0, t0, cs0, f0, p0, q0, hg0, ht0, hv0, hd0, ⟨g1, t1, cs1, f1, p1, q1, hg1, ht1, hv1, hd1, _, _⟩, _⟩, _, _⟩ := h
  obtain rfl := Option.some.inj (gR.symm.trans hg0)
  obtain rfl := Option.some.inj (gT.symm.trans hg1)
  obtain rfl := Option.some.inj (tR.symm.trans ht0)
  obtain rfl := Option.some.inj (tT.symm.trans ht1)
  have r : ∀ i : Nat, i < 24 → W.cell? ⟨1, i, none⟩ = some (.int .u64 (Kp.ga Kp.rcL i)) := fun i hi => by
    rw [World.var?_cell hg0 hv0 i, ← Array.getElem?_toList]
    exact arr_cells (L := Kp.rcL) Tryd.underlying96 Tryd.underlying73 (by kernel_rfl) hd0 i hi
  have t : ∀ i : Nat, i < 25 → W.cell? ⟨0, i, none⟩ = some (.int .i64 (Kp.ga Kp.turnsL i)) := fun i hi => by
    rw [World.var?_cell hg1 hv1 i, ← Array.getElem?_toList]
    exact arr_cells (L := Kp.turnsL) Tryd.underlying120 Tryd.underlying3 (by kernel_rfl) hd1 i hi
  exact ⟨t, r, cell_lt (t 0 (by decide)), cell_lt (r 0 (by decide))⟩
/-- The door's own heap meets the condition. -/
theorem door_met (os : Os) (args : Array Value) : laidMetH Tryd.prog laidL ((World.doorLaid Tryd.prog 400 os).forCall (fun _ _ => 0) ⟨#[], args, []⟩).memory :=
  laidMetH_of_parts3 (fuel := 8) (laidMet_of_run' 8 (by kernel_rfl) (by kernel_rfl)) (by kernel_rfl) (by kernel_rfl)
#print axioms door_met
#print axioms tab
end Go.Proofs.YtmiiknkfhiecgaaDoor.Laid
end
section
namespace Go.Proofs.YtmiiknkfhiecgaaDoor.fnBranches
open Go.ChangeShapes Go.WideShapes Go.ChangeAt Go.RowKit Go.Proofs.YtmiiknkfhiecgaaDoorW.PrintWords Go.Proofs.YtmiiknkfhiecgaaDoor.Open Go.Proofs.YtmiiknkfhiecgaaDoor.Pf
open Go.ChangeMaps (open_string shut_string)
set_option linter.unusedVariables false
set_option linter.unusedSimpArgs false
theorem own : ownKnob Tryd.prog.godebug = none := by kernel_rfl
theorem laidOut : laidOutB Tryd.prog = true := by kernel_rfl
set_option maxRecDepth 100000 in
theorem lifted (os : Os) (started : os.Started) (H : Type) (enc : TypeId × Value → H) :
  ReturnsInHanded {} Tryd.checked os 9 .any (fun w args => (Rows.fnBranchesSpec.pre enc Tryd.prog Tryd.f9 [] false w args ∧ laidMetH Tryd.prog Laid.laidL w) ∧ sizedMet enc Tryd.prog Tryd.f9 (OpenSpec.ofChange Rows.fnBranchesSpec) false w args)
   (Rows.fnBranchesSpec.post enc Tryd.prog Tryd.f9 false true false false) := by
 refine returnsInHanded_of_change_and (C := Tryd.checked) (X := fun w _ => laidMetH Tryd.prog Laid.laidL w) (fun _ _ _ hh h => h.of_heap hh) own started (by kernel_rfl) Tryd.func9
  (ChangeSpec.witness_shaped (enc := enc) (C := Tryd.checked) (os := os) (X := fun w _ => laidMetH Tryd.prog Laid.laidL w) false (World.doorLaid Tryd.prog 400 os) #[.slice none 0 0] 8 rfl (World.shaped_of_RefB (by kernel_rfl) (by kernel_rfl)) (by kernel_rfl) (by kernel_rfl) (by kernel_rfl) (Laid.door_met os _)) ?_
 intro W base args ds gs before hval0 hW hcnd hsz0 hL _
 have hT := Laid.tab hL
 have hsz : (DataW.weightsEach Tryd.prog (Tryd.f9.params.toList ++ Rows.fnBranchesSpec.plain.varTypes Tryd.prog) (ds ++ gs)).all (· ≤ reachBytes) = true := hsz0
 have hval : ∀ (j : Nat) t v, Tryd.f9.params[j]? = some t → args[j]? = some v → Value.okWide Tryd.prog W .any base t v := hval0
 have hW' := hW
 obtain ⟨p, q, hA0, hV, rfl, hfz, hnd⟩ := hW
 have hA : DataW.TrodAll enc Tryd.prog W 0 (fun _ => true) true Tryd.f9.params.toList args.toList ds p := hA0
 rw [Tryd.params9] at hA hval hsz
 obtain ⟨v0, vs0, d0, ds0, p0, q0, hargs, rfl, rfl, h0, r0⟩ := trodAll_cons hA
 obtain ⟨rfl, rfl, rfl⟩ := trodAll_nil r0
 obtain rfl : args = #[v0] := by cases args; simp_all
 have hV2 : DataW.TrodVars enc Tryd.prog W (fun _ => true) ["loop.example/g00321/impl.turns", "loop.example/g00321/impl.roundConstants"] gs q := hV
 obtain ⟨_, _, _, _, dv0, _, _, _, _, _, dv1, _, rfl, _⟩ := trodVars_two hV2
 obtain ⟨a0, len0, cap0, rfl⟩ := okWide_slice Tryd.underlying39 (hval 0 39 v0 rfl rfl)
 have k0 := h0
 have lt0 : ∀ x ∈ p0, x.block < W.heap.size := by obtain ⟨m, hm⟩ := k0; exact DataW.trod_lt m _ _ _ hm
 obtain ⟨l0, ⟨A0, c0, e0, hc0, hr0⟩, g0⟩ := (show ∃ a, (Kd.slice 5 (Kd.int .u8)).K W a [.slice a0 len0 cap0] ∧ _ from h0.elim fun fuel hf => (opens_slice Tryd.underlying39 (by kernel_rfl) (opens_int Tryd.underlying5)) enc W 0 (fun _ => true) true fuel [.slice a0 len0 cap0] _ hf)
 obtain ⟨rfl, rfl, rfl⟩ : a0 = A0 ∧ len0 = l0.length ∧ cap0 = c0 := by simpa using e0
 clear hA0 hval0 hsz0 hsz
 obtain ⟨k, h⟩ := Pure.FnBranches l0 g0
 refine (laws_FnBranches.calls k _ _ l0 true W hr0 hc0 hT ⟨rfl⟩ h).mono fun e W' ⟨he, bel0⟩ => ?_
 have bel : Below W.heap.size W W' := bel0
 subst he
 exact ⟨_, rfl, _, _, _, [], _, _, hW', trodAll_mk1 (shut_bool Tryd.underlying4 _), (trodAll_cons_mk (Below.trod laidOut (by kernel_rfl) (of_decide_eq_true (by kernel_rfl)) k0 bel lt0) trodAll_mk0), Below.trodVars laidOut bel (by kernel_rfl) hV2, bel.frame _, fun h => by cases h⟩
theorem over : Rows.fnBranchesRow.holds Tryd.pinned (OpenSpec.ofChange Rows.fnBranchesSpec) :=
 OpenClaim.holds_of_wide 9 Tryd.f9 rfl rfl rfl rfl rfl rfl rfl ⟨rfl, rfl, rfl, rfl, rfl⟩ rfl rfl rfl rfl rfl (by kernel_rfl) Tryd.func9 (by kernel_rfl)
  (of_decide_eq_true (by kernel_rfl)) (by unfold Func.isWrapper; first | (rw [if_pos (by decide +kernel)]; kernel_rfl) | (rw [if_neg (by decide +kernel)]; exact ⟨rfl, rfl⟩))
  (fun os started H enc _ => lifted os started H enc)
theorem proved : Rows.FnBranchesSaid := over
theorem card : Rows.FnBranchesCardSaid :=
 Claim7.holds_tied_plain_at .later [] [.data, .data] true (true, "e4c3bb3ba08b206a7ab2894f9061ace4b1bc15c35e02d35ce178dd72da8f1b3e") false
  over (fun _ h => by cases h) (by kernel_rfl) (fun _ h => by cases h) fnBranches_row_tie rfl ⟨rfl, rfl⟩ (by kernel_rfl) rfl
  (fun f fn hf hfn => by
   obtain rfl : f = 9 := Option.some.inj ((show Tryd.prog.funcNamed "loop.example/g00321/laws.FnBranches" = some 9 by kernel_rfl).symm.trans hf) |>.symm
   obtain rfl : fn = Tryd.f9 := (Option.some.inj (Tryd.func9.symm.trans hfn)).symm
   exact ⟨by kernel_rfl, fun j t ht => by
    rw [Tryd.params9] at ht
    have hm : t ∈ [39] := by simpa using Array.mem_of_getElem? ht
    have hall : ([39].all fun u => !Tryd.prog.wantsStandIn u) = true := by kernel_rfl
    exact (show Tryd.prog.wantsStandIn t = false by simpa using List.all_eq_true.1 hall t hm)⟩)
  (by kernel_rfl)
#print axioms card
end Go.Proofs.YtmiiknkfhiecgaaDoor.fnBranches
namespace Go.Proofs.YtmiiknkfhiecgaaDoor
/-- The row, under a short name, for the claim. -/
theorem fnBranches_holds : Rows.FnBranchesCardSaid := fnBranches.card
end Go.Proofs.YtmiiknkfhiecgaaDoor
end
