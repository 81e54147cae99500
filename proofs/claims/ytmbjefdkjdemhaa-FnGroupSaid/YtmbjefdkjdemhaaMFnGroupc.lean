/- What is proved here: part 3 of 5 of the proof of the given statement FnGroup: the contracts of the Go functions that it reaches, the plain facts on lists and numbers, and (in the last part) the statement itself. No conditions beyond the given ones. -/
import Derived.Test.YtmbjefdkjdemhaaMFnGroupa
import Derived.Test.YtmbjefdkjdemhaaMFnGroupb

section
namespace Go.Proofs.Ytmbjefdkjdemhaa.Pf
open Go.RowKit Go.Proofs.YtmbjefdkjdemhaaW.PrintWords Go.Proofs.YtmbjefdkjdemhaaW.PrintLast Go.Proofs.YtmbjefdkjdemhaaW.PrintMore
attribute [local go_sem] max2_int min2_int max_two min_two max_three min_three max_four min_four   -- for this text's walks alone
set_option linter.unusedVariables false
set_option linter.unusedSimpArgs false

attribute [local go_sem high] eqA25
/-! ### laws_FnGroup: function 6 -/
def laws_FnGroup.f (k : Nat) (l0 : List Int) : Option (Bool) := (laws_big.f l0).bind fun t659 => (if t659 = true then (some true) else ((spec_DrawCurve.f k l0).bind fun bt660 => ((impl_PointAdd.f k bt660.1 bt660.2.1 bt660.2.2.1 bt660.2.2.2.1 bt660.2.2.2.2.1 bt660.2.2.2.2.2.1).bind fun bt672 => ((impl_PointAdd.f k bt672.1 bt672.2.1 bt672.2.2 bt660.2.2.2.2.2.2.1 bt660.2.2.2.2.2.2.2.1 bt660.2.2.2.2.2.2.2.2).bind fun bt675 => ((impl_PointAdd.f k bt660.2.2.2.1 bt660.2.2.2.2.1 bt660.2.2.2.2.2.1 bt660.2.2.2.2.2.2.1 bt660.2.2.2.2.2.2.2.1 bt660.2.2.2.2.2.2.2.2).bind fun bt679 => ((impl_PointAdd.f k bt660.1 bt660.2.1 bt660.2.2.1 bt679.1 bt679.2.1 bt679.2.2).bind fun bt682 => ((spec_DrawPlaces.f k l0).bind fun t687 => (if 0 < (t687.length : Int) then (if 1 < (t687.length : Int) then (if (bt675.1 == bt682.1 && (bt675.2.1 == bt682.2.1 && (bt675.2.2 == bt682.2.2))) = true then ((impl_PointAdd.f k bt660.1 bt660.2.1 bt660.2.2.1 bt660.2.2.2.1 bt660.2.2.2.2.1 bt660.2.2.2.2.2.1).bind fun bt692 => ((impl_PointAdd.f k bt660.2.2.2.1 bt660.2.2.2.2.1 bt660.2.2.2.2.2.1 bt660.1 bt660.2.1 bt660.2.2.1).bind fun bt695 => (if (bt692.1 == bt695.1 && (bt692.2.1 == bt695.2.1 && (bt692.2.2 == bt695.2.2))) = true then ((impl_PointAdd.f k bt660.1 bt660.2.1 bt660.2.2.1 0 0 true).bind fun bt698 => (if (bt698.1 == bt660.1 && (bt698.2.1 == bt660.2.1 && (bt698.2.2 == bt660.2.2.1))) = true then ((impl_PointNeg.f bt660.1 bt660.2.1 bt660.2.2.1).bind fun bt701 => ((impl_PointAdd.f k bt660.1 bt660.2.1 bt660.2.2.1 bt701.1 bt701.2.1 bt701.2.2).bind fun bt704 => (if (bt704.1 == 0 && (bt704.2.1 == 0 && (bt704.2.2))) = true then ((impl_PointOk.f bt675.1 bt675.2.1 bt675.2.2).bind fun t707 => (if t707 = true then ((impl_PointTimes.f k (Int.tmod (rd t687 0) 300) bt660.1 bt660.2.1 bt660.2.2.1).bind fun bt708 => ((impl_PointTimes.f k (Int.tmod (rd t687 1) 300) bt660.1 bt660.2.1 bt660.2.2.1).bind fun bt711 => ((impl_PointAdd.f k bt708.1 bt708.2.1 bt708.2.2 bt711.1 bt711.2.1 bt711.2.2).bind fun bt714 => ((impl_PointTimes.f k (wrap64 ((Int.tmod (rd t687 0) 300) + (Int.tmod (rd t687 1) 300))) bt660.1 bt660.2.1 bt660.2.2.1).bind fun bt717 => (if (bt714.1 == bt717.1 && (bt714.2.1 == bt717.2.1 && (bt714.2.2 == bt717.2.2))) = true then ((impl_PointTimes.f k 12108 bt660.1 bt660.2.1 bt660.2.2.1).bind fun bt720 => (some (bt720.1 == 0 && (bt720.2.1 == 0 && (bt720.2.2))))) else (some false)))))) else (some false))) else (some false)))) else (some false))) else (some false)))) else (some false)) else (none)) else (none)))))))))
theorem laws_FnGroup.mono : ∀ a0 k, LeO (laws_FnGroup.f k a0) (laws_FnGroup.f (k + 1) a0) := by
  intro a0 k
  unfold laws_FnGroup.f
  repeat' first
      | (with_reducible exact impl_PointAdd.mono _ _ _ _ _ _ _)
      | (with_reducible exact impl_PointTimes.mono _ _ _ _ _)
      | (with_reducible exact spec_DrawCurve.mono _ _)
      | (with_reducible exact spec_DrawPlaces.mono _ _)
      | (with_reducible exact LeO.refl _)
      | (with_reducible exact LeO.none _)
      | (with_reducible refine LeO.ite ?_ ?_)
      | (with_reducible refine LeO.bind ?_ (fun _ => ?_))
      | exact impl_PointAdd.mono _ _ _ _ _ _ _
      | exact impl_PointTimes.mono _ _ _ _ _
      | exact spec_DrawCurve.mono _ _
      | exact spec_DrawPlaces.mono _ _
      | exact LeO.none _
      | refine LeO.ite ?_ ?_
      | refine LeO.bind ?_ (fun _ => ?_)
def laws_FnGroup.T10 : Bool × List (List Nat × List Nat) := (true, [([], []), ([], []), ([0, 1], [0, 1]), ([2], [2]), ([3], [3]), ([3], [3]), ([4, 5, 3, 3], [3, 4, 5]), ([3], [3]), ([3], [3]), ([7, 8, 6, 3], [3, 7, 8]), ([6, 9, 3], [3, 6, 9]), ([3, 10], [3, 10]), ([11, 9], [11]), ([12], [12]), ([12], [12]), ([13, 14, 12, 12], [12, 13, 14]), ([12], [12]), ([15, 16, 12], [12, 15, 16]), ([12, 17], [12, 17]), ([18, 15], [18]), ([19], [19]), ([19], [19]), ([21, 19, 19], [19, 21]), ([20, 22, 22, 19], [19, 20, 22]), ([19], [19]), ([23, 24, 19], [19, 23, 24]), ([19, 25], [19, 25]), ([26, 23], [26]), ([27], [27]), ([28, 27, 27], [27, 28]), ([27, 29], [27, 29]), ([30, 29], [30]), ([31], [31]), ([31], [31]), ([32, 33, 31, 31], [31, 32, 33]), ([31], [31]), ([31], [31]), ([35, 36, 34, 31], [31, 35, 36]), ([34, 37, 37, 31], [31, 34, 37]), ([31], [31]), ([31], [31]), ([39, 40, 31], [31, 39, 40]), ([31], [31]), ([41, 42, 38, 31], [31, 41, 42]), ([38, 43, 31], [31, 38, 43]), ([31, 44], [31, 44]), ([45, 43], [45]), ([46], [46]), ([47, 46, 46], [46, 47]), ([46], [46]), ([48, 49, 46], [46, 48, 49]), ([46, 50], [46, 50]), ([51, 48, 0, 1, 2, 3, 4, 5, 6, 7, 8, 9, 10, 11, 12, 13, 14, 15, 16, 17, 18, 19, 20, 21, 22, 23, 24, 25, 26, 27, 28, 29, 30, 31, 32, 33, 34, 35, 36, 37, 38, 39, 40, 41, 42, 43, 44, 45, 46, 47, 48, 49, 50, 51], [51])])
def laws_FnGroup.B10 : List Nat := [0, 0, 3, 7, 15, 15, 63, 15, 15, 511, 1023, 2047, 4095, 8191, 8191, 32767, 8191, 131071, 262143, 524287, 1048575, 1048575, 3145727, 8388607, 1048575, 33554431, 67108863, 134217727, 268435455, 536870911, 1073741823, 2147483647, 4294967295, 4294967295, 17179869183, 4294967295, 4294967295, 137438953471, 274877906943, 4294967295, 4294967295, 1653562408959, 4294967295, 8796093022207, 17592186044415, 35184372088831, 70368744177663, 140737488355327, 281474976710655, 140737488355327, 1125899906842623, 2251799813685247, 4503599627370495]
theorem laws_FnGroup.tab10 : rtab .any (opsOf Try.f6 10) = laws_FnGroup.T10 := by kernel_rfl
theorem laws_FnGroup.bits10 : waitsOk laws_FnGroup.T10.2 laws_FnGroup.B10 = true := by kernel_rfl
set_option maxHeartbeats 8000000 in
set_option maxRecDepth 100000 in
theorem laws_FnGroup.calls (k : Nat) (A0 : Option Addr) (c0 : Nat) (l0 : List Int) (r : Bool) (w : World) (hr0 : Kd.C (Kd.int .u8) w A0 l0.length l0) (hc0 : l0.length ≤ c0) (htrue : Aside0 (r = true)) (h : laws_FnGroup.f k l0 = some r) :
    Calls Try.prog 6 #[.slice A0 l0.length c0] w fun e w' => e = .returned (.bool r) ∧ Below w.heap.size w w' := by
  have hu25 := Try.underlying25
  have HR0 := Aside0.mk hr0
  have HC0 := Aside0.mk hc0
  clear hr0 hc0
  have HB := Aside0.mk (Below.refl w.heap.size w)
  have H : ((laws_big.f l0).bind fun t659 => (if t659 = true then (some true) else ((spec_DrawCurve.f k l0).bind fun bt660 => ((impl_PointAdd.f k bt660.1 bt660.2.1 bt660.2.2.1 bt660.2.2.2.1 bt660.2.2.2.2.1 bt660.2.2.2.2.2.1).bind fun bt672 => ((impl_PointAdd.f k bt672.1 bt672.2.1 bt672.2.2 bt660.2.2.2.2.2.2.1 bt660.2.2.2.2.2.2.2.1 bt660.2.2.2.2.2.2.2.2).bind fun bt675 => ((impl_PointAdd.f k bt660.2.2.2.1 bt660.2.2.2.2.1 bt660.2.2.2.2.2.1 bt660.2.2.2.2.2.2.1 bt660.2.2.2.2.2.2.2.1 bt660.2.2.2.2.2.2.2.2).bind fun bt679 => ((impl_PointAdd.f k bt660.1 bt660.2.1 bt660.2.2.1 bt679.1 bt679.2.1 bt679.2.2).bind fun bt682 => ((spec_DrawPlaces.f k l0).bind fun t687 => (if 0 < (t687.length : Int) then (if 1 < (t687.length : Int) then (if (bt675.1 == bt682.1 && (bt675.2.1 == bt682.2.1 && (bt675.2.2 == bt682.2.2))) = true then ((impl_PointAdd.f k bt660.1 bt660.2.1 bt660.2.2.1 bt660.2.2.2.1 bt660.2.2.2.2.1 bt660.2.2.2.2.2.1).bind fun bt692 => ((impl_PointAdd.f k bt660.2.2.2.1 bt660.2.2.2.2.1 bt660.2.2.2.2.2.1 bt660.1 bt660.2.1 bt660.2.2.1).bind fun bt695 => (if (bt692.1 == bt695.1 && (bt692.2.1 == bt695.2.1 && (bt692.2.2 == bt695.2.2))) = true then ((impl_PointAdd.f k bt660.1 bt660.2.1 bt660.2.2.1 0 0 true).bind fun bt698 => (if (bt698.1 == bt660.1 && (bt698.2.1 == bt660.2.1 && (bt698.2.2 == bt660.2.2.1))) = true then ((impl_PointNeg.f bt660.1 bt660.2.1 bt660.2.2.1).bind fun bt701 => ((impl_PointAdd.f k bt660.1 bt660.2.1 bt660.2.2.1 bt701.1 bt701.2.1 bt701.2.2).bind fun bt704 => (if (bt704.1 == 0 && (bt704.2.1 == 0 && (bt704.2.2))) = true then ((impl_PointOk.f bt675.1 bt675.2.1 bt675.2.2).bind fun t707 => (if t707 = true then ((impl_PointTimes.f k (Int.tmod (rd t687 0) 300) bt660.1 bt660.2.1 bt660.2.2.1).bind fun bt708 => ((impl_PointTimes.f k (Int.tmod (rd t687 1) 300) bt660.1 bt660.2.1 bt660.2.2.1).bind fun bt711 => ((impl_PointAdd.f k bt708.1 bt708.2.1 bt708.2.2 bt711.1 bt711.2.1 bt711.2.2).bind fun bt714 => ((impl_PointTimes.f k (wrap64 ((Int.tmod (rd t687 0) 300) + (Int.tmod (rd t687 1) 300))) bt660.1 bt660.2.1 bt660.2.2.1).bind fun bt717 => (if (bt714.1 == bt717.1 && (bt714.2.1 == bt717.2.1 && (bt714.2.2 == bt717.2.2))) = true then ((impl_PointTimes.f k 12108 bt660.1 bt660.2.1 bt660.2.2.1).bind fun bt720 => (some (bt720.1 == 0 && (bt720.2.1 == 0 && (bt720.2.2))))) else (some false)))))) else (some false))) else (some false)))) else (some false))) else (some false)))) else (some false)) else (none)) else (none)))))))))) = some r := h
  clear h
  replace H := Option.bind_eq_some_iff.mp H
  obtain ⟨t659, A20, H⟩ := H
  replace H : (if t659 = true then (some true) else ((spec_DrawCurve.f k l0).bind fun bt660 => ((impl_PointAdd.f k bt660.1 bt660.2.1 bt660.2.2.1 bt660.2.2.2.1 bt660.2.2.2.2.1 bt660.2.2.2.2.2.1).bind fun bt672 => ((impl_PointAdd.f k bt672.1 bt672.2.1 bt672.2.2 bt660.2.2.2.2.2.2.1 bt660.2.2.2.2.2.2.2.1 bt660.2.2.2.2.2.2.2.2).bind fun bt675 => ((impl_PointAdd.f k bt660.2.2.2.1 bt660.2.2.2.2.1 bt660.2.2.2.2.2.1 bt660.2.2.2.2.2.2.1 bt660.2.2.2.2.2.2.2.1 bt660.2.2.2.2.2.2.2.2).bind fun bt679 => ((impl_PointAdd.f k bt660.1 bt660.2.1 bt660.2.2.1 bt679.1 bt679.2.1 bt679.2.2).bind fun bt682 => ((spec_DrawPlaces.f k l0).bind fun t687 => (if 0 < (t687.length : Int) then (if 1 < (t687.length : Int) then (if (bt675.1 == bt682.1 && (bt675.2.1 == bt682.2.1 && (bt675.2.2 == bt682.2.2))) = true then ((impl_PointAdd.f k bt660.1 bt660.2.1 bt660.2.2.1 bt660.2.2.2.1 bt660.2.2.2.2.1 bt660.2.2.2.2.2.1).bind fun bt692 => ((impl_PointAdd.f k bt660.2.2.2.1 bt660.2.2.2.2.1 bt660.2.2.2.2.2.1 bt660.1 bt660.2.1 bt660.2.2.1).bind fun bt695 => (if (bt692.1 == bt695.1 && (bt692.2.1 == bt695.2.1 && (bt692.2.2 == bt695.2.2))) = true then ((impl_PointAdd.f k bt660.1 bt660.2.1 bt660.2.2.1 0 0 true).bind fun bt698 => (if (bt698.1 == bt660.1 && (bt698.2.1 == bt660.2.1 && (bt698.2.2 == bt660.2.2.1))) = true then ((impl_PointNeg.f bt660.1 bt660.2.1 bt660.2.2.1).bind fun bt701 => ((impl_PointAdd.f k bt660.1 bt660.2.1 bt660.2.2.1 bt701.1 bt701.2.1 bt701.2.2).bind fun bt704 => (if (bt704.1 == 0 && (bt704.2.1 == 0 && (bt704.2.2))) = true then ((impl_PointOk.f bt675.1 bt675.2.1 bt675.2.2).bind fun t707 => (if t707 = true then ((impl_PointTimes.f k (Int.tmod (rd t687 0) 300) bt660.1 bt660.2.1 bt660.2.2.1).bind fun bt708 => ((impl_PointTimes.f k (Int.tmod (rd t687 1) 300) bt660.1 bt660.2.1 bt660.2.2.1).bind fun bt711 => ((impl_PointAdd.f k bt708.1 bt708.2.1 bt708.2.2 bt711.1 bt711.2.1 bt711.2.2).bind fun bt714 => ((impl_PointTimes.f k (wrap64 ((Int.tmod (rd t687 0) 300) + (Int.tmod (rd t687 1) 300))) bt660.1 bt660.2.1 bt660.2.2.1).bind fun bt717 => (if (bt714.1 == bt717.1 && (bt714.2.1 == bt717.2.1 && (bt714.2.2 == bt717.2.2))) = true then ((impl_PointTimes.f k 12108 bt660.1 bt660.2.1 bt660.2.2.1).bind fun bt720 => (some (bt720.1 == 0 && (bt720.2.1 == 0 && (bt720.2.2))))) else (some false)))))) else (some false))) else (some false)))) else (some false))) else (some false)))) else (some false)) else (none)) else (none))))))))) = some r := H
  have A2 := Aside0.mk A20
  clear A20
  by_cases c3 : t659 = true
  · subst c3
    have H1 : (some true) = some r := by rw [if_pos rfl] at H; exact H
    clear H
    have H := H1
    clear H1
    obtain rfl := Option.some.inj H
    go_enter Try.func6, Try.ntmps6
    go_wp2_with (first | ((with_reducible refine gate_callee (f := 14) rfl ?_); refine goesL_ (some 13) rfl rfl Try.func14 (by kernel_rfl) rfl #[.slice A0 l0.length c0] rfl (by (try simp only [List.map_toArray, List.map_cons, List.map_nil]); first | done | rfl | (simp only [List.length_drop, List.length_take]; rfl)) ?_; (with_reducible refine (laws_big.calls _ _ l0 true _ ?side1 ?side2 A2.out).mono ?_); (case side1 => repeat (first | exact HR0.out | (with_reducible refine Kd.C_alloc ?_ _) | (with_reducible refine Kd.C_drewN ?_ _) | (with_reducible refine Kd.C_drew ?_))); (case side2 => exact HC0.out); rintro e w' ⟨rfl, ⟨nd, rfl⟩⟩; refine ⟨_, rfl, ?_⟩))
    go_ret
    exact ⟨by first | rfl | (simp [errW_none, errW_some] <;> rfl) | (simp [*, errW_none, errW_some] <;> rfl), by repeat (first | (with_reducible first | exact HB.out | apply below_alloc | apply pw_below_drewN | apply below_drew1) | exact HB.out)⟩
  · replace c3 := Bool.eq_false_iff.mpr c3
    subst c3
    have H1 : ((spec_DrawCurve.f k l0).bind fun bt660 => ((impl_PointAdd.f k bt660.1 bt660.2.1 bt660.2.2.1 bt660.2.2.2.1 bt660.2.2.2.2.1 bt660.2.2.2.2.2.1).bind fun bt672 => ((impl_PointAdd.f k bt672.1 bt672.2.1 bt672.2.2 bt660.2.2.2.2.2.2.1 bt660.2.2.2.2.2.2.2.1 bt660.2.2.2.2.2.2.2.2).bind fun bt675 => ((impl_PointAdd.f k bt660.2.2.2.1 bt660.2.2.2.2.1 bt660.2.2.2.2.2.1 bt660.2.2.2.2.2.2.1 bt660.2.2.2.2.2.2.2.1 bt660.2.2.2.2.2.2.2.2).bind fun bt679 => ((impl_PointAdd.f k bt660.1 bt660.2.1 bt660.2.2.1 bt679.1 bt679.2.1 bt679.2.2).bind fun bt682 => ((spec_DrawPlaces.f k l0).bind fun t687 => (if 0 < (t687.length : Int) then (if 1 < (t687.length : Int) then (if (bt675.1 == bt682.1 && (bt675.2.1 == bt682.2.1 && (bt675.2.2 == bt682.2.2))) = true then ((impl_PointAdd.f k bt660.1 bt660.2.1 bt660.2.2.1 bt660.2.2.2.1 bt660.2.2.2.2.1 bt660.2.2.2.2.2.1).bind fun bt692 => ((impl_PointAdd.f k bt660.2.2.2.1 bt660.2.2.2.2.1 bt660.2.2.2.2.2.1 bt660.1 bt660.2.1 bt660.2.2.1).bind fun bt695 => (if (bt692.1 == bt695.1 && (bt692.2.1 == bt695.2.1 && (bt692.2.2 == bt695.2.2))) = true then ((impl_PointAdd.f k bt660.1 bt660.2.1 bt660.2.2.1 0 0 true).bind fun bt698 => (if (bt698.1 == bt660.1 && (bt698.2.1 == bt660.2.1 && (bt698.2.2 == bt660.2.2.1))) = true then ((impl_PointNeg.f bt660.1 bt660.2.1 bt660.2.2.1).bind fun bt701 => ((impl_PointAdd.f k bt660.1 bt660.2.1 bt660.2.2.1 bt701.1 bt701.2.1 bt701.2.2).bind fun bt704 => (if (bt704.1 == 0 && (bt704.2.1 == 0 && (bt704.2.2))) = true then ((impl_PointOk.f bt675.1 bt675.2.1 bt675.2.2).bind fun t707 => (if t707 = true then ((impl_PointTimes.f k (Int.tmod (rd t687 0) 300) bt660.1 bt660.2.1 bt660.2.2.1).bind fun bt708 => ((impl_PointTimes.f k (Int.tmod (rd t687 1) 300) bt660.1 bt660.2.1 bt660.2.2.1).bind fun bt711 => ((impl_PointAdd.f k bt708.1 bt708.2.1 bt708.2.2 bt711.1 bt711.2.1 bt711.2.2).bind fun bt714 => ((impl_PointTimes.f k (wrap64 ((Int.tmod (rd t687 0) 300) + (Int.tmod (rd t687 1) 300))) bt660.1 bt660.2.1 bt660.2.2.1).bind fun bt717 => (if (bt714.1 == bt717.1 && (bt714.2.1 == bt717.2.1 && (bt714.2.2 == bt717.2.2))) = true then ((impl_PointTimes.f k 12108 bt660.1 bt660.2.1 bt660.2.2.1).bind fun bt720 => (some (bt720.1 == 0 && (bt720.2.1 == 0 && (bt720.2.2))))) else (some false)))))) else (some false))) else (some false)))) else (some false))) else (some false)))) else (some false)) else (none)) else (none)))))))) = some r := by rw [if_neg (show ¬ (false = true) by decide)] at H; exact H
    clear H
    have H := H1
    clear H1
    replace H := Option.bind_eq_some_iff.mp H
    obtain ⟨⟨t660, t661, t662, t663, t664, t665, t666, t667, t668⟩, A40, H⟩ := H
    replace H : ((impl_PointAdd.f k t660 t661 t662 t663 t664 t665).bind fun bt672 => ((impl_PointAdd.f k bt672.1 bt672.2.1 bt672.2.2 t666 t667 t668).bind fun bt675 => ((impl_PointAdd.f k t663 t664 t665 t666 t667 t668).bind fun bt679 => ((impl_PointAdd.f k t660 t661 t662 bt679.1 bt679.2.1 bt679.2.2).bind fun bt682 => ((spec_DrawPlaces.f k l0).bind fun t687 => (if 0 < (t687.length : Int) then (if 1 < (t687.length : Int) then (if (bt675.1 == bt682.1 && (bt675.2.1 == bt682.2.1 && (bt675.2.2 == bt682.2.2))) = true then ((impl_PointAdd.f k t660 t661 t662 t663 t664 t665).bind fun bt692 => ((impl_PointAdd.f k t663 t664 t665 t660 t661 t662).bind fun bt695 => (if (bt692.1 == bt695.1 && (bt692.2.1 == bt695.2.1 && (bt692.2.2 == bt695.2.2))) = true then ((impl_PointAdd.f k t660 t661 t662 0 0 true).bind fun bt698 => (if (bt698.1 == t660 && (bt698.2.1 == t661 && (bt698.2.2 == t662))) = true then ((impl_PointNeg.f t660 t661 t662).bind fun bt701 => ((impl_PointAdd.f k t660 t661 t662 bt701.1 bt701.2.1 bt701.2.2).bind fun bt704 => (if (bt704.1 == 0 && (bt704.2.1 == 0 && (bt704.2.2))) = true then ((impl_PointOk.f bt675.1 bt675.2.1 bt675.2.2).bind fun t707 => (if t707 = true then ((impl_PointTimes.f k (Int.tmod (rd t687 0) 300) t660 t661 t662).bind fun bt708 => ((impl_PointTimes.f k (Int.tmod (rd t687 1) 300) t660 t661 t662).bind fun bt711 => ((impl_PointAdd.f k bt708.1 bt708.2.1 bt708.2.2 bt711.1 bt711.2.1 bt711.2.2).bind fun bt714 => ((impl_PointTimes.f k (wrap64 ((Int.tmod (rd t687 0) 300) + (Int.tmod (rd t687 1) 300))) t660 t661 t662).bind fun bt717 => (if (bt714.1 == bt717.1 && (bt714.2.1 == bt717.2.1 && (bt714.2.2 == bt717.2.2))) = true then ((impl_PointTimes.f k 12108 t660 t661 t662).bind fun bt720 => (some (bt720.1 == 0 && (bt720.2.1 == 0 && (bt720.2.2))))) else (some false)))))) else (some false))) else (some false)))) else (some false))) else (some false)))) else (some false)) else (none)) else (none))))))) = some r := H
    have A4 := Aside0.mk A40
    clear A40
    replace H := Option.bind_eq_some_iff.mp H
    obtain ⟨⟨t672, t673, t674⟩, A50, H⟩ := H
    replace H : ((impl_PointAdd.f k t672 t673 t674 t666 t667 t668).bind fun bt675 => ((impl_PointAdd.f k t663 t664 t665 t666 t667 t668).bind fun bt679 => ((impl_PointAdd.f k t660 t661 t662 bt679.1 bt679.2.1 bt679.2.2).bind fun bt682 => ((spec_DrawPlaces.f k l0).bind fun t687 => (if 0 < (t687.length : Int) then (if 1 < (t687.length : Int) then (if (bt675.1 == bt682.1 && (bt675.2.1 == bt682.2.1 && (bt675.2.2 == bt682.2.2))) = true then ((impl_PointAdd.f k t660 t661 t662 t663 t664 t665).bind fun bt692 => ((impl_PointAdd.f k t663 t664 t665 t660 t661 t662).bind fun bt695 => (if (bt692.1 == bt695.1 && (bt692.2.1 == bt695.2.1 && (bt692.2.2 == bt695.2.2))) = true then ((impl_PointAdd.f k t660 t661 t662 0 0 true).bind fun bt698 => (if (bt698.1 == t660 && (bt698.2.1 == t661 && (bt698.2.2 == t662))) = true then ((impl_PointNeg.f t660 t661 t662).bind fun bt701 => ((impl_PointAdd.f k t660 t661 t662 bt701.1 bt701.2.1 bt701.2.2).bind fun bt704 => (if (bt704.1 == 0 && (bt704.2.1 == 0 && (bt704.2.2))) = true then ((impl_PointOk.f bt675.1 bt675.2.1 bt675.2.2).bind fun t707 => (if t707 = true then ((impl_PointTimes.f k (Int.tmod (rd t687 0) 300) t660 t661 t662).bind fun bt708 => ((impl_PointTimes.f k (Int.tmod (rd t687 1) 300) t660 t661 t662).bind fun bt711 => ((impl_PointAdd.f k bt708.1 bt708.2.1 bt708.2.2 bt711.1 bt711.2.1 bt711.2.2).bind fun bt714 => ((impl_PointTimes.f k (wrap64 ((Int.tmod (rd t687 0) 300) + (Int.tmod (rd t687 1) 300))) t660 t661 t662).bind fun bt717 => (if (bt714.1 == bt717.1 && (bt714.2.1 == bt717.2.1 && (bt714.2.2 == bt717.2.2))) = true then ((impl_PointTimes.f k 12108 t660 t661 t662).bind fun bt720 => (some (bt720.1 == 0 && (bt720.2.1 == 0 && (bt720.2.2))))) else (some false)))))) else (some false))) else (some false)))) else (some false))) else (some false)))) else (some false)) else (none)) else (none)))))) = some r := H
    have A5 := Aside0.mk A50
    clear A50
    replace H := Option.bind_eq_some_iff.mp H
    obtain ⟨⟨t675, t676, t677⟩, A60, H⟩ := H
    replace H : ((impl_PointAdd.f k t663 t664 t665 t666 t667 t668).bind fun bt679 => ((impl_PointAdd.f k t660 t661 t662 bt679.1 bt679.2.1 bt679.2.2).bind fun bt682 => ((spec_DrawPlaces.f k l0).bind fun t687 => (if 0 < (t687.length : Int) then (if 1 < (t687.length : Int) then (if (t675 == bt682.1 && (t676 == bt682.2.1 && (t677 == bt682.2.2))) = true then ((impl_PointAdd.f k t660 t661 t662 t663 t664 t665).bind fun bt692 => ((impl_PointAdd.f k t663 t664 t665 t660 t661 t662).bind fun bt695 => (if (bt692.1 == bt695.1 && (bt692.2.1 == bt695.2.1 && (bt692.2.2 == bt695.2.2))) = true then ((impl_PointAdd.f k t660 t661 t662 0 0 true).bind fun bt698 => (if (bt698.1 == t660 && (bt698.2.1 == t661 && (bt698.2.2 == t662))) = true then ((impl_PointNeg.f t660 t661 t662).bind fun bt701 => ((impl_PointAdd.f k t660 t661 t662 bt701.1 bt701.2.1 bt701.2.2).bind fun bt704 => (if (bt704.1 == 0 && (bt704.2.1 == 0 && (bt704.2.2))) = true then ((impl_PointOk.f t675 t676 t677).bind fun t707 => (if t707 = true then ((impl_PointTimes.f k (Int.tmod (rd t687 0) 300) t660 t661 t662).bind fun bt708 => ((impl_PointTimes.f k (Int.tmod (rd t687 1) 300) t660 t661 t662).bind fun bt711 => ((impl_PointAdd.f k bt708.1 bt708.2.1 bt708.2.2 bt711.1 bt711.2.1 bt711.2.2).bind fun bt714 => ((impl_PointTimes.f k (wrap64 ((Int.tmod (rd t687 0) 300) + (Int.tmod (rd t687 1) 300))) t660 t661 t662).bind fun bt717 => (if (bt714.1 == bt717.1 && (bt714.2.1 == bt717.2.1 && (bt714.2.2 == bt717.2.2))) = true then ((impl_PointTimes.f k 12108 t660 t661 t662).bind fun bt720 => (some (bt720.1 == 0 && (bt720.2.1 == 0 && (bt720.2.2))))) else (some false)))))) else (some false))) else (some false)))) else (some false))) else (some false)))) else (some false)) else (none)) else (none))))) = some r := H
    have A6 := Aside0.mk A60
    clear A60
    replace H := Option.bind_eq_some_iff.mp H
    obtain ⟨⟨t679, t680, t681⟩, A70, H⟩ := H
    replace H : ((impl_PointAdd.f k t660 t661 t662 t679 t680 t681).bind fun bt682 => ((spec_DrawPlaces.f k l0).bind fun t687 => (if 0 < (t687.length : Int) then (if 1 < (t687.length : Int) then (if (t675 == bt682.1 && (t676 == bt682.2.1 && (t677 == bt682.2.2))) = true then ((impl_PointAdd.f k t660 t661 t662 t663 t664 t665).bind fun bt692 => ((impl_PointAdd.f k t663 t664 t665 t660 t661 t662).bind fun bt695 => (if (bt692.1 == bt695.1 && (bt692.2.1 == bt695.2.1 && (bt692.2.2 == bt695.2.2))) = true then ((impl_PointAdd.f k t660 t661 t662 0 0 true).bind fun bt698 => (if (bt698.1 == t660 && (bt698.2.1 == t661 && (bt698.2.2 == t662))) = true then ((impl_PointNeg.f t660 t661 t662).bind fun bt701 => ((impl_PointAdd.f k t660 t661 t662 bt701.1 bt701.2.1 bt701.2.2).bind fun bt704 => (if (bt704.1 == 0 && (bt704.2.1 == 0 && (bt704.2.2))) = true then ((impl_PointOk.f t675 t676 t677).bind fun t707 => (if t707 = true then ((impl_PointTimes.f k (Int.tmod (rd t687 0) 300) t660 t661 t662).bind fun bt708 => ((impl_PointTimes.f k (Int.tmod (rd t687 1) 300) t660 t661 t662).bind fun bt711 => ((impl_PointAdd.f k bt708.1 bt708.2.1 bt708.2.2 bt711.1 bt711.2.1 bt711.2.2).bind fun bt714 => ((impl_PointTimes.f k (wrap64 ((Int.tmod (rd t687 0) 300) + (Int.tmod (rd t687 1) 300))) t660 t661 t662).bind fun bt717 => (if (bt714.1 == bt717.1 && (bt714.2.1 == bt717.2.1 && (bt714.2.2 == bt717.2.2))) = true then ((impl_PointTimes.f k 12108 t660 t661 t662).bind fun bt720 => (some (bt720.1 == 0 && (bt720.2.1 == 0 && (bt720.2.2))))) else (some false)))))) else (some false))) else (some false)))) else (some false))) else (some false)))) else (some false)) else (none)) else (none)))) = some r := H
    have A7 := Aside0.mk A70
    clear A70
    replace H := Option.bind_eq_some_iff.mp H
    obtain ⟨⟨t682, t683, t684⟩, A80, H⟩ := H
    replace H : ((spec_DrawPlaces.f k l0).bind fun t687 => (if 0 < (t687.length : Int) then (if 1 < (t687.length : Int) then (if (t675 == t682 && (t676 == t683 && (t677 == t684))) = true then ((impl_PointAdd.f k t660 t661 t662 t663 t664 t665).bind fun bt692 => ((impl_PointAdd.f k t663 t664 t665 t660 t661 t662).bind fun bt695 => (if (bt692.1 == bt695.1 && (bt692.2.1 == bt695.2.1 && (bt692.2.2 == bt695.2.2))) = true then ((impl_PointAdd.f k t660 t661 t662 0 0 true).bind fun bt698 => (if (bt698.1 == t660 && (bt698.2.1 == t661 && (bt698.2.2 == t662))) = true then ((impl_PointNeg.f t660 t661 t662).bind fun bt701 => ((impl_PointAdd.f k t660 t661 t662 bt701.1 bt701.2.1 bt701.2.2).bind fun bt704 => (if (bt704.1 == 0 && (bt704.2.1 == 0 && (bt704.2.2))) = true then ((impl_PointOk.f t675 t676 t677).bind fun t707 => (if t707 = true then ((impl_PointTimes.f k (Int.tmod (rd t687 0) 300) t660 t661 t662).bind fun bt708 => ((impl_PointTimes.f k (Int.tmod (rd t687 1) 300) t660 t661 t662).bind fun bt711 => ((impl_PointAdd.f k bt708.1 bt708.2.1 bt708.2.2 bt711.1 bt711.2.1 bt711.2.2).bind fun bt714 => ((impl_PointTimes.f k (wrap64 ((Int.tmod (rd t687 0) 300) + (Int.tmod (rd t687 1) 300))) t660 t661 t662).bind fun bt717 => (if (bt714.1 == bt717.1 && (bt714.2.1 == bt717.2.1 && (bt714.2.2 == bt717.2.2))) = true then ((impl_PointTimes.f k 12108 t660 t661 t662).bind fun bt720 => (some (bt720.1 == 0 && (bt720.2.1 == 0 && (bt720.2.2))))) else (some false)))))) else (some false))) else (some false)))) else (some false))) else (some false)))) else (some false)) else (none)) else (none))) = some r := H
    have A8 := Aside0.mk A80
    clear A80
    replace H := Option.bind_eq_some_iff.mp H
    obtain ⟨t687, A90, H⟩ := H
    replace H : (if 0 < (t687.length : Int) then (if 1 < (t687.length : Int) then (if (t675 == t682 && (t676 == t683 && (t677 == t684))) = true then ((impl_PointAdd.f k t660 t661 t662 t663 t664 t665).bind fun bt692 => ((impl_PointAdd.f k t663 t664 t665 t660 t661 t662).bind fun bt695 => (if (bt692.1 == bt695.1 && (bt692.2.1 == bt695.2.1 && (bt692.2.2 == bt695.2.2))) = true then ((impl_PointAdd.f k t660 t661 t662 0 0 true).bind fun bt698 => (if (bt698.1 == t660 && (bt698.2.1 == t661 && (bt698.2.2 == t662))) = true then ((impl_PointNeg.f t660 t661 t662).bind fun bt701 => ((impl_PointAdd.f k t660 t661 t662 bt701.1 bt701.2.1 bt701.2.2).bind fun bt704 => (if (bt704.1 == 0 && (bt704.2.1 == 0 && (bt704.2.2))) = true then ((impl_PointOk.f t675 t676 t677).bind fun t707 => (if t707 = true then ((impl_PointTimes.f k (Int.tmod (rd t687 0) 300) t660 t661 t662).bind fun bt708 => ((impl_PointTimes.f k (Int.tmod (rd t687 1) 300) t660 t661 t662).bind fun bt711 => ((impl_PointAdd.f k bt708.1 bt708.2.1 bt708.2.2 bt711.1 bt711.2.1 bt711.2.2).bind fun bt714 => ((impl_PointTimes.f k (wrap64 ((Int.tmod (rd t687 0) 300) + (Int.tmod (rd t687 1) 300))) t660 t661 t662).bind fun bt717 => (if (bt714.1 == bt717.1 && (bt714.2.1 == bt717.2.1 && (bt714.2.2 == bt717.2.2))) = true then ((impl_PointTimes.f k 12108 t660 t661 t662).bind fun bt720 => (some (bt720.1 == 0 && (bt720.2.1 == 0 && (bt720.2.2))))) else (some false)))))) else (some false))) else (some false)))) else (some false))) else (some false)))) else (some false)) else (none)) else (none)) = some r := H
    have A9 := Aside0.mk A90
    clear A90
    by_cases c10 : 0 < (t687.length : Int)
    · rw [if_pos c10] at H
      have c10b0 : decide (0 < (t687.length : Int)) = true := decide_eq_true c10
      have c10b1 : decide (0 < t687.length) = true := decide_eq_true (by omega)
      clear c10
      by_cases c11 : 1 < (t687.length : Int)
      · rw [if_pos c11] at H
        have c11b0 : decide (1 < (t687.length : Int)) = true := decide_eq_true c11
        have c11b1 : decide (1 < t687.length) = true := decide_eq_true (by omega)
        clear c11
        by_cases c12 : (t675 == t682 && (t676 == t683 && (t677 == t684))) = true
        · rw [if_pos c12] at H
          have c12b0 : (t675 == t682 && (t676 == t683 && (t677 == t684))) = true := c12
          (try (have c12b1 : decide (t675 = t682 && (t676 == t683 && (t677 == t684))) = true := by simpa using c12))
          (try (have c12b2 : (t675 == t682 && (t676 == t683 && (t677 == t684))) = true := by simpa using c12))
          clear c12
          replace H := Option.bind_eq_some_iff.mp H
          obtain ⟨⟨t692, t693, t694⟩, A130, H⟩ := H
          replace H : ((impl_PointAdd.f k t663 t664 t665 t660 t661 t662).bind fun bt695 => (if (t692 == bt695.1 && (t693 == bt695.2.1 && (t694 == bt695.2.2))) = true then ((impl_PointAdd.f k t660 t661 t662 0 0 true).bind fun bt698 => (if (bt698.1 == t660 && (bt698.2.1 == t661 && (bt698.2.2 == t662))) = true then ((impl_PointNeg.f t660 t661 t662).bind fun bt701 => ((impl_PointAdd.f k t660 t661 t662 bt701.1 bt701.2.1 bt701.2.2).bind fun bt704 => (if (bt704.1 == 0 && (bt704.2.1 == 0 && (bt704.2.2))) = true then ((impl_PointOk.f t675 t676 t677).bind fun t707 => (if t707 = true then ((impl_PointTimes.f k (Int.tmod (rd t687 0) 300) t660 t661 t662).bind fun bt708 => ((impl_PointTimes.f k (Int.tmod (rd t687 1) 300) t660 t661 t662).bind fun bt711 => ((impl_PointAdd.f k bt708.1 bt708.2.1 bt708.2.2 bt711.1 bt711.2.1 bt711.2.2).bind fun bt714 => ((impl_PointTimes.f k (wrap64 ((Int.tmod (rd t687 0) 300) + (Int.tmod (rd t687 1) 300))) t660 t661 t662).bind fun bt717 => (if (bt714.1 == bt717.1 && (bt714.2.1 == bt717.2.1 && (bt714.2.2 == bt717.2.2))) = true then ((impl_PointTimes.f k 12108 t660 t661 t662).bind fun bt720 => (some (bt720.1 == 0 && (bt720.2.1 == 0 && (bt720.2.2))))) else (some false)))))) else (some false))) else (some false)))) else (some false))) else (some false))) = some r := H
          have A13 := Aside0.mk A130
          clear A130
          replace H := Option.bind_eq_some_iff.mp H
          obtain ⟨⟨t695, t696, t697⟩, A140, H⟩ := H
          replace H : (if (t692 == t695 && (t693 == t696 && (t694 == t697))) = true then ((impl_PointAdd.f k t660 t661 t662 0 0 true).bind fun bt698 => (if (bt698.1 == t660 && (bt698.2.1 == t661 && (bt698.2.2 == t662))) = true then ((impl_PointNeg.f t660 t661 t662).bind fun bt701 => ((impl_PointAdd.f k t660 t661 t662 bt701.1 bt701.2.1 bt701.2.2).bind fun bt704 => (if (bt704.1 == 0 && (bt704.2.1 == 0 && (bt704.2.2))) = true then ((impl_PointOk.f t675 t676 t677).bind fun t707 => (if t707 = true then ((impl_PointTimes.f k (Int.tmod (rd t687 0) 300) t660 t661 t662).bind fun bt708 => ((impl_PointTimes.f k (Int.tmod (rd t687 1) 300) t660 t661 t662).bind fun bt711 => ((impl_PointAdd.f k bt708.1 bt708.2.1 bt708.2.2 bt711.1 bt711.2.1 bt711.2.2).bind fun bt714 => ((impl_PointTimes.f k (wrap64 ((Int.tmod (rd t687 0) 300) + (Int.tmod (rd t687 1) 300))) t660 t661 t662).bind fun bt717 => (if (bt714.1 == bt717.1 && (bt714.2.1 == bt717.2.1 && (bt714.2.2 == bt717.2.2))) = true then ((impl_PointTimes.f k 12108 t660 t661 t662).bind fun bt720 => (some (bt720.1 == 0 && (bt720.2.1 == 0 && (bt720.2.2))))) else (some false)))))) else (some false))) else (some false)))) else (some false))) else (some false)) = some r := H
          have A14 := Aside0.mk A140
          clear A140
          by_cases c15 : (t692 == t695 && (t693 == t696 && (t694 == t697))) = true
          · rw [if_pos c15] at H
            have c15b0 : (t692 == t695 && (t693 == t696 && (t694 == t697))) = true := c15
            (try (have c15b1 : decide (t692 = t695 && (t693 == t696 && (t694 == t697))) = true := by simpa using c15))
            (try (have c15b2 : (t692 == t695 && (t693 == t696 && (t694 == t697))) = true := by simpa using c15))
            clear c15
            replace H := Option.bind_eq_some_iff.mp H
            obtain ⟨⟨t698, t699, t700⟩, A160, H⟩ := H
            replace H : (if (t698 == t660 && (t699 == t661 && (t700 == t662))) = true then ((impl_PointNeg.f t660 t661 t662).bind fun bt701 => ((impl_PointAdd.f k t660 t661 t662 bt701.1 bt701.2.1 bt701.2.2).bind fun bt704 => (if (bt704.1 == 0 && (bt704.2.1 == 0 && (bt704.2.2))) = true then ((impl_PointOk.f t675 t676 t677).bind fun t707 => (if t707 = true then ((impl_PointTimes.f k (Int.tmod (rd t687 0) 300) t660 t661 t662).bind fun bt708 => ((impl_PointTimes.f k (Int.tmod (rd t687 1) 300) t660 t661 t662).bind fun bt711 => ((impl_PointAdd.f k bt708.1 bt708.2.1 bt708.2.2 bt711.1 bt711.2.1 bt711.2.2).bind fun bt714 => ((impl_PointTimes.f k (wrap64 ((Int.tmod (rd t687 0) 300) + (Int.tmod (rd t687 1) 300))) t660 t661 t662).bind fun bt717 => (if (bt714.1 == bt717.1 && (bt714.2.1 == bt717.2.1 && (bt714.2.2 == bt717.2.2))) = true then ((impl_PointTimes.f k 12108 t660 t661 t662).bind fun bt720 => (some (bt720.1 == 0 && (bt720.2.1 == 0 && (bt720.2.2))))) else (some false)))))) else (some false))) else (some false)))) else (some false)) = some r := H
            have A16 := Aside0.mk A160
            clear A160
            by_cases c17 : (t698 == t660 && (t699 == t661 && (t700 == t662))) = true
            · rw [if_pos c17] at H
              have c17b0 : (t698 == t660 && (t699 == t661 && (t700 == t662))) = true := c17
              (try (have c17b1 : decide (t698 = t660 && (t699 == t661 && (t700 == t662))) = true := by simpa using c17))
              (try (have c17b2 : (t698 == t660 && (t699 == t661 && (t700 == t662))) = true := by simpa using c17))
              clear c17
              replace H := Option.bind_eq_some_iff.mp H
              obtain ⟨⟨t701, t702, t703⟩, A180, H⟩ := H
              replace H : ((impl_PointAdd.f k t660 t661 t662 t701 t702 t703).bind fun bt704 => (if (bt704.1 == 0 && (bt704.2.1 == 0 && (bt704.2.2))) = true then ((impl_PointOk.f t675 t676 t677).bind fun t707 => (if t707 = true then ((impl_PointTimes.f k (Int.tmod (rd t687 0) 300) t660 t661 t662).bind fun bt708 => ((impl_PointTimes.f k (Int.tmod (rd t687 1) 300) t660 t661 t662).bind fun bt711 => ((impl_PointAdd.f k bt708.1 bt708.2.1 bt708.2.2 bt711.1 bt711.2.1 bt711.2.2).bind fun bt714 => ((impl_PointTimes.f k (wrap64 ((Int.tmod (rd t687 0) 300) + (Int.tmod (rd t687 1) 300))) t660 t661 t662).bind fun bt717 => (if (bt714.1 == bt717.1 && (bt714.2.1 == bt717.2.1 && (bt714.2.2 == bt717.2.2))) = true then ((impl_PointTimes.f k 12108 t660 t661 t662).bind fun bt720 => (some (bt720.1 == 0 && (bt720.2.1 == 0 && (bt720.2.2))))) else (some false)))))) else (some false))) else (some false))) = some r := H
              have A18 := Aside0.mk A180
              clear A180
              replace H := Option.bind_eq_some_iff.mp H
              obtain ⟨⟨t704, t705, t706⟩, A190, H⟩ := H
              replace H : (if (t704 == 0 && (t705 == 0 && (t706))) = true then ((impl_PointOk.f t675 t676 t677).bind fun t707 => (if t707 = true then ((impl_PointTimes.f k (Int.tmod (rd t687 0) 300) t660 t661 t662).bind fun bt708 => ((impl_PointTimes.f k (Int.tmod (rd t687 1) 300) t660 t661 t662).bind fun bt711 => ((impl_PointAdd.f k bt708.1 bt708.2.1 bt708.2.2 bt711.1 bt711.2.1 bt711.2.2).bind fun bt714 => ((impl_PointTimes.f k (wrap64 ((Int.tmod (rd t687 0) 300) + (Int.tmod (rd t687 1) 300))) t660 t661 t662).bind fun bt717 => (if (bt714.1 == bt717.1 && (bt714.2.1 == bt717.2.1 && (bt714.2.2 == bt717.2.2))) = true then ((impl_PointTimes.f k 12108 t660 t661 t662).bind fun bt720 => (some (bt720.1 == 0 && (bt720.2.1 == 0 && (bt720.2.2))))) else (some false)))))) else (some false))) else (some false)) = some r := H
              have A19 := Aside0.mk A190
              clear A190
              by_cases c20 : (t704 == 0 && (t705 == 0 && (t706))) = true
              · rw [if_pos c20] at H
                have c20b0 : (t704 == 0 && (t705 == 0 && (t706))) = true := c20
                (try (have c20b1 : decide (t704 = 0 && (t705 == 0 && (t706))) = true := by simpa using c20))
                (try (have c20b2 : (t704 == 0 && (t705 == 0 && (t706))) = true := by simpa using c20))
                clear c20
                replace H := Option.bind_eq_some_iff.mp H
                obtain ⟨t707, A210, H⟩ := H
                replace H : (if t707 = true then ((impl_PointTimes.f k (Int.tmod (rd t687 0) 300) t660 t661 t662).bind fun bt708 => ((impl_PointTimes.f k (Int.tmod (rd t687 1) 300) t660 t661 t662).bind fun bt711 => ((impl_PointAdd.f k bt708.1 bt708.2.1 bt708.2.2 bt711.1 bt711.2.1 bt711.2.2).bind fun bt714 => ((impl_PointTimes.f k (wrap64 ((Int.tmod (rd t687 0) 300) + (Int.tmod (rd t687 1) 300))) t660 t661 t662).bind fun bt717 => (if (bt714.1 == bt717.1 && (bt714.2.1 == bt717.2.1 && (bt714.2.2 == bt717.2.2))) = true then ((impl_PointTimes.f k 12108 t660 t661 t662).bind fun bt720 => (some (bt720.1 == 0 && (bt720.2.1 == 0 && (bt720.2.2))))) else (some false)))))) else (some false)) = some r := H
                have A21 := Aside0.mk A210
                clear A210
                by_cases c22 : t707 = true
                · subst c22
                  have H1 : ((impl_PointTimes.f k (Int.tmod (rd t687 0) 300) t660 t661 t662).bind fun bt708 => ((impl_PointTimes.f k (Int.tmod (rd t687 1) 300) t660 t661 t662).bind fun bt711 => ((impl_PointAdd.f k bt708.1 bt708.2.1 bt708.2.2 bt711.1 bt711.2.1 bt711.2.2).bind fun bt714 => ((impl_PointTimes.f k (wrap64 ((Int.tmod (rd t687 0) 300) + (Int.tmod (rd t687 1) 300))) t660 t661 t662).bind fun bt717 => (if (bt714.1 == bt717.1 && (bt714.2.1 == bt717.2.1 && (bt714.2.2 == bt717.2.2))) = true then ((impl_PointTimes.f k 12108 t660 t661 t662).bind fun bt720 => (some (bt720.1 == 0 && (bt720.2.1 == 0 && (bt720.2.2))))) else (some false)))))) = some r := by rw [if_pos rfl] at H; exact H
                  clear H
                  have H := H1
                  clear H1
                  replace H := Option.bind_eq_some_iff.mp H
                  obtain ⟨⟨t708, t709, t710⟩, A230, H⟩ := H
                  replace H : ((impl_PointTimes.f k (Int.tmod (rd t687 1) 300) t660 t661 t662).bind fun bt711 => ((impl_PointAdd.f k t708 t709 t710 bt711.1 bt711.2.1 bt711.2.2).bind fun bt714 => ((impl_PointTimes.f k (wrap64 ((Int.tmod (rd t687 0) 300) + (Int.tmod (rd t687 1) 300))) t660 t661 t662).bind fun bt717 => (if (bt714.1 == bt717.1 && (bt714.2.1 == bt717.2.1 && (bt714.2.2 == bt717.2.2))) = true then ((impl_PointTimes.f k 12108 t660 t661 t662).bind fun bt720 => (some (bt720.1 == 0 && (bt720.2.1 == 0 && (bt720.2.2))))) else (some false))))) = some r := H
                  have A23 := Aside0.mk A230
                  clear A230
                  replace H := Option.bind_eq_some_iff.mp H
                  obtain ⟨⟨t711, t712, t713⟩, A240, H⟩ := H
                  replace H : ((impl_PointAdd.f k t708 t709 t710 t711 t712 t713).bind fun bt714 => ((impl_PointTimes.f k (wrap64 ((Int.tmod (rd t687 0) 300) + (Int.tmod (rd t687 1) 300))) t660 t661 t662).bind fun bt717 => (if (bt714.1 == bt717.1 && (bt714.2.1 == bt717.2.1 && (bt714.2.2 == bt717.2.2))) = true then ((impl_PointTimes.f k 12108 t660 t661 t662).bind fun bt720 => (some (bt720.1 == 0 && (bt720.2.1 == 0 && (bt720.2.2))))) else (some false)))) = some r := H
                  have A24 := Aside0.mk A240
                  clear A240
                  replace H := Option.bind_eq_some_iff.mp H
                  obtain ⟨⟨t714, t715, t716⟩, A250, H⟩ := H
                  replace H : ((impl_PointTimes.f k (wrap64 ((Int.tmod (rd t687 0) 300) + (Int.tmod (rd t687 1) 300))) t660 t661 t662).bind fun bt717 => (if (t714 == bt717.1 && (t715 == bt717.2.1 && (t716 == bt717.2.2))) = true then ((impl_PointTimes.f k 12108 t660 t661 t662).bind fun bt720 => (some (bt720.1 == 0 && (bt720.2.1 == 0 && (bt720.2.2))))) else (some false))) = some r := H
                  have A25 := Aside0.mk A250
                  clear A250
                  replace H := Option.bind_eq_some_iff.mp H
                  obtain ⟨⟨t717, t718, t719⟩, A260, H⟩ := H
                  replace H : (if (t714 == t717 && (t715 == t718 && (t716 == t719))) = true then ((impl_PointTimes.f k 12108 t660 t661 t662).bind fun bt720 => (some (bt720.1 == 0 && (bt720.2.1 == 0 && (bt720.2.2))))) else (some false)) = some r := H
                  have A26 := Aside0.mk A260
                  clear A260
                  by_cases c27 : (t714 == t717 && (t715 == t718 && (t716 == t719))) = true
                  · rw [if_pos c27] at H
                    have c27b0 : (t714 == t717 && (t715 == t718 && (t716 == t719))) = true := c27
                    (try (have c27b1 : decide (t714 = t717 && (t715 == t718 && (t716 == t719))) = true := by simpa using c27))
                    (try (have c27b2 : (t714 == t717 && (t715 == t718 && (t716 == t719))) = true := by simpa using c27))
                    clear c27
                    replace H := Option.bind_eq_some_iff.mp H
                    obtain ⟨⟨t720, t721, t722⟩, A280, H⟩ := H
                    replace H : (some (t720 == 0 && (t721 == 0 && (t722)))) = some r := H
                    have A28 := Aside0.mk A280
                    clear A280
                    obtain rfl := Option.some.inj H
                    go_enter Try.func6, Try.ntmps6
                    try go_wp2_with (first | ((with_reducible refine gate_callee (f := 14) rfl ?_); refine goesL_ (some 13) rfl rfl Try.func14 (by kernel_rfl) rfl #[.slice A0 l0.length c0] rfl (by (try simp only [List.map_toArray, List.map_cons, List.map_nil]); first | done | rfl | (simp only [List.length_drop, List.length_take]; rfl)) ?_; (with_reducible refine (laws_big.calls _ _ l0 false _ ?side1 ?side2 A2.out).mono ?_); (case side1 => repeat (first | exact HR0.out | (with_reducible refine Kd.C_alloc ?_ _) | (with_reducible refine Kd.C_drewN ?_ _) | (with_reducible refine Kd.C_drew ?_))); (case side2 => exact HC0.out); rintro e w' ⟨rfl, ⟨nd, rfl⟩⟩; refine ⟨_, rfl, ?_⟩) | ((with_reducible refine gate_callee (f := 29) rfl ?_); refine goesL_ (some 16) rfl rfl Try.func29 (by kernel_rfl) rfl #[.slice A0 l0.length c0] rfl (by (try simp only [List.map_toArray, List.map_cons, List.map_nil]); first | done | rfl | (simp only [List.length_drop, List.length_take]; rfl)) ?_; (with_reducible refine (spec_DrawCurve.calls k _ _ l0 t660 t661 t662 t663 t664 t665 t666 t667 t668 _ ?side1 ?side2 A4.out).mono ?_); (case side1 => repeat (first | exact HR0.out | (with_reducible refine Kd.C_alloc ?_ _) | (with_reducible refine Kd.C_drewN ?_ _) | (with_reducible refine Kd.C_drew ?_))); (case side2 => exact HC0.out); rintro e w29 ⟨rfl, hb⟩; refine ⟨_, rfl, ?_⟩; have n0_ := Aside0.mk (below_step (by repeat (first | (with_reducible first | exact HB.out | apply below_alloc | apply pw_below_drewN | apply below_drew1) | exact HB.out)) hb); clear HB; have HB := n0_; clear n0_; (try clear hb); (try clear hb2); (try clear hk); (try clear hi)) | ((with_reducible refine gate_dst (N := 3) rfl ?_); refine box_event ?hg (N := 3) ?hd (cs := #[.int .i64 0, .int .i64 0, .bool false]) (t := 25) ?hr ?_; (case hd => rfl); (case hg => rfl); (case hr => first | (go_simp; done) | (go_simp; rfl)); intro gb669 hg w30 hbox hb; have n0_ := Aside0.mk (below_step (by repeat (first | (with_reducible first | exact HB.out | apply below_alloc | apply pw_below_drewN | apply below_drew1) | exact HB.out)) hb); have n1_ := Aside0.mk (hbox); have n2_ := Aside0.mk ((by rw [hg]; exact (below_size (by repeat (first | (with_reducible first | exact HB.out | apply below_alloc | apply pw_below_drewN | apply below_drew1) | exact HB.out))) : w.heap.size ≤ gb669)); have n3_ := Aside0.mk ((by rw [hg]; exact (below_size (by repeat (first | (with_reducible first | exact HB.out | apply below_alloc | apply pw_below_drewN | apply below_drew1) | exact HB.out))) : w.heap.size ≤ gb669)); clear HB; have HB := n0_; have BK669 := n1_; have GW669 := n2_; have GE669 := n3_; clear n0_ n1_ n2_ n3_; clear hb hbox hg) | ((with_reducible refine gate_dst (N := 4) rfl ?_); refine box_event ?hg (N := 4) ?hd (cs := #[.int .i64 0, .int .i64 0, .bool false]) (t := 25) ?hr ?_; (case hd => rfl); (case hg => rfl); (case hr => first | (go_simp; done) | (go_simp; rfl)); intro gb670 hg w31 hbox hb; have n0_ := Aside0.mk (blk_below (g := gb669) (o := .cells #[.int .i64 0, .int .i64 0, .bool false] 25 (0, 0)) (by (with_reducible repeat (first | refine blk_drewN ?_ _ | refine blk_drew ?_ | refine blk_alloc ?_ _)); exact BK669.out) hb); have n1_ := Aside0.mk (below_step (by repeat (first | (with_reducible first | exact HB.out | apply below_alloc | apply pw_below_drewN | apply below_drew1 | refine below_set ?_ GE669.out) | exact HB.out)) hb); have n2_ := Aside0.mk (hbox); have n3_ := Aside0.mk ((by rw [hg]; exact (below_size (by repeat (first | (with_reducible first | exact HB.out | apply below_alloc | apply pw_below_drewN | apply below_drew1 | refine below_set ?_ GE669.out) | exact HB.out))) : w.heap.size ≤ gb670)); have n4_ := Aside0.mk ((by rw [hg]; exact (below_size (by repeat (first | (with_reducible first | exact HB.out | apply below_alloc | apply pw_below_drewN | apply below_drew1 | refine below_set ?_ GE669.out) | exact HB.out))) : w.heap.size ≤ gb670)); have n5_ := Aside0.mk ((by rw [hg]; exact Nat.ne_of_lt (blk_lt (g := gb669) (o := .cells #[.int .i64 0, .int .i64 0, .bool false] 25 (0, 0)) (by (with_reducible repeat (first | refine blk_drewN ?_ _ | refine blk_drew ?_ | refine blk_alloc ?_ _)); exact BK669.out)) : gb669 ≠ gb670)); have n6_ := Aside0.mk ((by rw [hg]; exact Nat.ne_of_gt (blk_lt (g := gb669) (o := .cells #[.int .i64 0, .int .i64 0, .bool false] 25 (0, 0)) (by (with_reducible repeat (first | refine blk_drewN ?_ _ | refine blk_drew ?_ | refine blk_alloc ?_ _)); exact BK669.out)) : gb670 ≠ gb669)); clear BK669; clear HB; have BK669 := n0_; have HB := n1_; have BK670 := n2_; have GW670 := n3_; have GE670 := n4_; have NB669_670 := n5_; have NB670_669 := n6_; clear n0_ n1_ n2_ n3_ n4_ n5_ n6_; clear hb hbox hg) | ((with_reducible refine gate_dst (N := 5) rfl ?_); refine box_event ?hg (N := 5) ?hd (cs := #[.int .i64 0, .int .i64 0, .bool false]) (t := 25) ?hr ?_; (case hd => rfl); (case hg => rfl); (case hr => first | (go_simp; done) | (go_simp; rfl)); intro gb671 hg w32 hbox hb; have n0_ := Aside0.mk (blk_below (g := gb669) (o := .cells #[.int .i64 0, .int .i64 0, .bool false] 25 (0, 0)) (by (with_reducible repeat (first | refine blk_drewN ?_ _ | refine blk_drew ?_ | refine blk_alloc ?_ _)); exact BK669.out) hb); have n1_ := Aside0.mk (blk_below (g := gb670) (o := .cells #[.int .i64 0, .int .i64 0, .bool false] 25 (0, 0)) (by (with_reducible repeat (first | refine blk_drewN ?_ _ | refine blk_drew ?_ | refine blk_alloc ?_ _)); exact BK670.out) hb); have n2_ := Aside0.mk (below_step (by repeat (first | (with_reducible first | exact HB.out | apply below_alloc | apply pw_below_drewN | apply below_drew1 | refine below_set ?_ GE669.out | refine below_set ?_ GE670.out) | exact HB.out)) hb); have n3_ := Aside0.mk (hbox); have n4_ := Aside0.mk ((by rw [hg]; exact (below_size (by repeat (first | (with_reducible first | exact HB.out | apply below_alloc | apply pw_below_drewN | apply below_drew1 | refine below_set ?_ GE669.out | refine below_set ?_ GE670.out) | exact HB.out))) : w.heap.size ≤ gb671)); have n5_ := Aside0.mk ((by rw [hg]; exact (below_size (by repeat (first | (with_reducible first | exact HB.out | apply below_alloc | apply pw_below_drewN | apply below_drew1 | refine below_set ?_ GE669.out | refine below_set ?_ GE670.out) | exact HB.out))) : w.heap.size ≤ gb671)); have n6_ := Aside0.mk ((by rw [hg]; exact Nat.ne_of_lt (blk_lt (g := gb669) (o := .cells #[.int .i64 0, .int .i64 0, .bool false] 25 (0, 0)) (by (with_reducible repeat (first | refine blk_drewN ?_ _ | refine blk_drew ?_ | refine blk_alloc ?_ _)); exact BK669.out)) : gb669 ≠ gb671)); have n7_ := Aside0.mk ((by rw [hg]; exact Nat.ne_of_gt (blk_lt (g := gb669) (o := .cells #[.int .i64 0, .int .i64 0, .bool false] 25 (0, 0)) (by (with_reducible repeat (first | refine blk_drewN ?_ _ | refine blk_drew ?_ | refine blk_alloc ?_ _)); exact BK669.out)) : gb671 ≠ gb669)); have n8_ := Aside0.mk ((by rw [hg]; exact Nat.ne_of_lt (blk_lt (g := gb670) (o := .cells #[.int .i64 0, .int .i64 0, .bool false] 25 (0, 0)) (by (with_reducible repeat (first | refine blk_drewN ?_ _ | refine blk_drew ?_ | refine blk_alloc ?_ _)); exact BK670.out)) : gb670 ≠ gb671)); have n9_ := Aside0.mk ((by rw [hg]; exact Nat.ne_of_gt (blk_lt (g := gb670) (o := .cells #[.int .i64 0, .int .i64 0, .bool false] 25 (0, 0)) (by (with_reducible repeat (first | refine blk_drewN ?_ _ | refine blk_drew ?_ | refine blk_alloc ?_ _)); exact BK670.out)) : gb671 ≠ gb670)); clear BK669; clear BK670; clear HB; have BK669 := n0_; have BK670 := n1_; have HB := n2_; have BK671 := n3_; have GW671 := n4_; have GE671 := n5_; have NB669_671 := n6_; have NB671_669 := n7_; have NB670_671 := n8_; have NB671_670 := n9_; clear n0_ n1_ n2_ n3_ n4_ n5_ n6_ n7_ n8_ n9_; clear hb hbox hg; have hnb33 := NB669_670.out; have hnc33 := NB670_669.out; have hnb34 := NB669_671.out; have hnc34 := NB671_669.out; have hcz35_0 : w32.cell? ⟨gb669, 0, none⟩ = some (.int .i64 0) := (blk_cell BK669.out 0).trans rfl; have hcz35_1 : w32.cell? ⟨gb669, 1, none⟩ = some (.int .i64 0) := (blk_cell BK669.out 1).trans rfl; have hcz35_2 : w32.cell? ⟨gb669, 2, none⟩ = some (.bool false) := (blk_cell BK669.out 2).trans rfl; have hfz35_0 := blk_frozen BK669.out 0; have hfz35_1 := blk_frozen BK669.out 1; have hfz35_2 := blk_frozen BK669.out 2; have hnb36 := NB670_671.out; have hnc36 := NB671_670.out; have hcz37_0 : w32.cell? ⟨gb670, 0, none⟩ = some (.int .i64 0) := (blk_cell BK670.out 0).trans rfl; have hcz37_1 : w32.cell? ⟨gb670, 1, none⟩ = some (.int .i64 0) := (blk_cell BK670.out 1).trans rfl; have hcz37_2 : w32.cell? ⟨gb670, 2, none⟩ = some (.bool false) := (blk_cell BK670.out 2).trans rfl; have hfz37_0 := blk_frozen BK670.out 0; have hfz37_1 := blk_frozen BK670.out 1; have hfz37_2 := blk_frozen BK670.out 2; have hcz38_0 : w32.cell? ⟨gb671, 0, none⟩ = some (.int .i64 0) := (blk_cell BK671.out 0).trans rfl; have hcz38_1 : w32.cell? ⟨gb671, 1, none⟩ = some (.int .i64 0) := (blk_cell BK671.out 1).trans rfl; have hcz38_2 : w32.cell? ⟨gb671, 2, none⟩ = some (.bool false) := (blk_cell BK671.out 2).trans rfl; have hfz38_0 := blk_frozen BK671.out 0; have hfz38_1 := blk_frozen BK671.out 1; have hfz38_2 := blk_frozen BK671.out 2))
                    have n0_ : Aside0 ((((((((((w32.setCell ⟨gb669, 0, none⟩ (.int .i64 t660)).setCell ⟨gb669, 1, none⟩ (.int .i64 t661)).setCell ⟨gb669, 2, none⟩ (.bool t662)).setCell ⟨gb670, 0, none⟩ (.int .i64 t663)).setCell ⟨gb670, 1, none⟩ (.int .i64 t664)).setCell ⟨gb670, 2, none⟩ (.bool t665)).setCell ⟨gb671, 0, none⟩ (.int .i64 t666)).setCell ⟨gb671, 1, none⟩ (.int .i64 t667)).setCell ⟨gb671, 2, none⟩ (.bool t668)).heap[gb669]? = some (.cells #[.int .i64 t660, .int .i64 t661, .bool t662] 25 (0, 0))) := ⟨by (with_reducible repeat (first | refine blk_drewN ?_ _ | refine blk_drew ?_ | refine blk_alloc ?_ _)); refine blk_far ?_ NB669_671.out _; (with_reducible repeat (first | refine blk_drewN ?_ _ | refine blk_drew ?_ | refine blk_alloc ?_ _)); refine blk_far ?_ NB669_671.out _; (with_reducible repeat (first | refine blk_drewN ?_ _ | refine blk_drew ?_ | refine blk_alloc ?_ _)); refine blk_far ?_ NB669_671.out _; (with_reducible repeat (first | refine blk_drewN ?_ _ | refine blk_drew ?_ | refine blk_alloc ?_ _)); refine blk_far ?_ NB669_670.out _; (with_reducible repeat (first | refine blk_drewN ?_ _ | refine blk_drew ?_ | refine blk_alloc ?_ _)); refine blk_far ?_ NB669_670.out _; (with_reducible repeat (first | refine blk_drewN ?_ _ | refine blk_drew ?_ | refine blk_alloc ?_ _)); refine blk_far ?_ NB669_670.out _; (with_reducible repeat (first | refine blk_drewN ?_ _ | refine blk_drew ?_ | refine blk_alloc ?_ _)); refine blk_put (cs := #[.int .i64 t660, .int .i64 t661, .bool false]) ?_ 2 _ rfl; (with_reducible repeat (first | refine blk_drewN ?_ _ | refine blk_drew ?_ | refine blk_alloc ?_ _)); refine blk_put (cs := #[.int .i64 t660, .int .i64 0, .bool false]) ?_ 1 _ rfl; (with_reducible repeat (first | refine blk_drewN ?_ _ | refine blk_drew ?_ | refine blk_alloc ?_ _)); refine blk_put (cs := #[.int .i64 0, .int .i64 0, .bool false]) ?_ 0 _ rfl; (with_reducible repeat (first | refine blk_drewN ?_ _ | refine blk_drew ?_ | refine blk_alloc ?_ _)); exact BK669.out⟩
                    have n1_ : Aside0 ((((((((((w32.setCell ⟨gb669, 0, none⟩ (.int .i64 t660)).setCell ⟨gb669, 1, none⟩ (.int .i64 t661)).setCell ⟨gb669, 2, none⟩ (.bool t662)).setCell ⟨gb670, 0, none⟩ (.int .i64 t663)).setCell ⟨gb670, 1, none⟩ (.int .i64 t664)).setCell ⟨gb670, 2, none⟩ (.bool t665)).setCell ⟨gb671, 0, none⟩ (.int .i64 t666)).setCell ⟨gb671, 1, none⟩ (.int .i64 t667)).setCell ⟨gb671, 2, none⟩ (.bool t668)).heap[gb670]? = some (.cells #[.int .i64 t663, .int .i64 t664, .bool t665] 25 (0, 0))) := ⟨by (with_reducible repeat (first | refine blk_drewN ?_ _ | refine blk_drew ?_ | refine blk_alloc ?_ _)); refine blk_far ?_ NB670_671.out _; (with_reducible repeat (first | refine blk_drewN ?_ _ | refine blk_drew ?_ | refine blk_alloc ?_ _)); refine blk_far ?_ NB670_671.out _; (with_reducible repeat (first | refine blk_drewN ?_ _ | refine blk_drew ?_ | refine blk_alloc ?_ _)); refine blk_far ?_ NB670_671.out _; (with_reducible repeat (first | refine blk_drewN ?_ _ | refine blk_drew ?_ | refine blk_alloc ?_ _)); refine blk_put (cs := #[.int .i64 t663, .int .i64 t664, .bool false]) ?_ 2 _ rfl; (with_reducible repeat (first | refine blk_drewN ?_ _ | refine blk_drew ?_ | refine blk_alloc ?_ _)); refine blk_put (cs := #[.int .i64 t663, .int .i64 0, .bool false]) ?_ 1 _ rfl; (with_reducible repeat (first | refine blk_drewN ?_ _ | refine blk_drew ?_ | refine blk_alloc ?_ _)); refine blk_put (cs := #[.int .i64 0, .int .i64 0, .bool false]) ?_ 0 _ rfl; (with_reducible repeat (first | refine blk_drewN ?_ _ | refine blk_drew ?_ | refine blk_alloc ?_ _)); refine blk_far ?_ NB670_669.out _; (with_reducible repeat (first | refine blk_drewN ?_ _ | refine blk_drew ?_ | refine blk_alloc ?_ _)); refine blk_far ?_ NB670_669.out _; (with_reducible repeat (first | refine blk_drewN ?_ _ | refine blk_drew ?_ | refine blk_alloc ?_ _)); refine blk_far ?_ NB670_669.out _; (with_reducible repeat (first | refine blk_drewN ?_ _ | refine blk_drew ?_ | refine blk_alloc ?_ _)); exact BK670.out⟩
                    have n2_ : Aside0 ((((((((((w32.setCell ⟨gb669, 0, none⟩ (.int .i64 t660)).setCell ⟨gb669, 1, none⟩ (.int .i64 t661)).setCell ⟨gb669, 2, none⟩ (.bool t662)).setCell ⟨gb670, 0, none⟩ (.int .i64 t663)).setCell ⟨gb670, 1, none⟩ (.int .i64 t664)).setCell ⟨gb670, 2, none⟩ (.bool t665)).setCell ⟨gb671, 0, none⟩ (.int .i64 t666)).setCell ⟨gb671, 1, none⟩ (.int .i64 t667)).setCell ⟨gb671, 2, none⟩ (.bool t668)).heap[gb671]? = some (.cells #[.int .i64 t666, .int .i64 t667, .bool t668] 25 (0, 0))) := ⟨by (with_reducible repeat (first | refine blk_drewN ?_ _ | refine blk_drew ?_ | refine blk_alloc ?_ _)); refine blk_put (cs := #[.int .i64 t666, .int .i64 t667, .bool false]) ?_ 2 _ rfl; (with_reducible repeat (first | refine blk_drewN ?_ _ | refine blk_drew ?_ | refine blk_alloc ?_ _)); refine blk_put (cs := #[.int .i64 t666, .int .i64 0, .bool false]) ?_ 1 _ rfl; (with_reducible repeat (first | refine blk_drewN ?_ _ | refine blk_drew ?_ | refine blk_alloc ?_ _)); refine blk_put (cs := #[.int .i64 0, .int .i64 0, .bool false]) ?_ 0 _ rfl; (with_reducible repeat (first | refine blk_drewN ?_ _ | refine blk_drew ?_ | refine blk_alloc ?_ _)); refine blk_far ?_ NB671_670.out _; (with_reducible repeat (first | refine blk_drewN ?_ _ | refine blk_drew ?_ | refine blk_alloc ?_ _)); refine blk_far ?_ NB671_670.out _; (with_reducible repeat (first | refine blk_drewN ?_ _ | refine blk_drew ?_ | refine blk_alloc ?_ _)); refine blk_far ?_ NB671_670.out _; (with_reducible repeat (first | refine blk_drewN ?_ _ | refine blk_drew ?_ | refine blk_alloc ?_ _)); refine blk_far ?_ NB671_669.out _; (with_reducible repeat (first | refine blk_drewN ?_ _ | refine blk_drew ?_ | refine blk_alloc ?_ _)); refine blk_far ?_ NB671_669.out _; (with_reducible repeat (first | refine blk_drewN ?_ _ | refine blk_drew ?_ | refine blk_alloc ?_ _)); refine blk_far ?_ NB671_669.out _; (with_reducible repeat (first | refine blk_drewN ?_ _ | refine blk_drew ?_ | refine blk_alloc ?_ _)); exact BK671.out⟩
                    have n3_ : Aside0 (Below w.heap.size w (((((((((w32.setCell ⟨gb669, 0, none⟩ (.int .i64 t660)).setCell ⟨gb669, 1, none⟩ (.int .i64 t661)).setCell ⟨gb669, 2, none⟩ (.bool t662)).setCell ⟨gb670, 0, none⟩ (.int .i64 t663)).setCell ⟨gb670, 1, none⟩ (.int .i64 t664)).setCell ⟨gb670, 2, none⟩ (.bool t665)).setCell ⟨gb671, 0, none⟩ (.int .i64 t666)).setCell ⟨gb671, 1, none⟩ (.int .i64 t667)).setCell ⟨gb671, 2, none⟩ (.bool t668))) := ⟨by repeat (first | (with_reducible first | exact HB.out | apply below_alloc | apply pw_below_drewN | apply below_drew1 | refine below_set ?_ GE669.out | refine below_set ?_ GE670.out | refine below_set ?_ GE671.out) | exact HB.out)⟩
                    (try clear BK669)
                    (try clear BK670)
                    (try clear BK671)
                    (try clear HB)
                    generalize (((((((((w32.setCell ⟨gb669, 0, none⟩ (.int .i64 t660)).setCell ⟨gb669, 1, none⟩ (.int .i64 t661)).setCell ⟨gb669, 2, none⟩ (.bool t662)).setCell ⟨gb670, 0, none⟩ (.int .i64 t663)).setCell ⟨gb670, 1, none⟩ (.int .i64 t664)).setCell ⟨gb670, 2, none⟩ (.bool t665)).setCell ⟨gb671, 0, none⟩ (.int .i64 t666)).setCell ⟨gb671, 1, none⟩ (.int .i64 t667)).setCell ⟨gb671, 2, none⟩ (.bool t668)) = w39 at n0_ n1_ n2_ n3_ ⊢
                    have BK669 := n0_
                    have BK670 := n1_
                    have BK671 := n2_
                    have HB := n3_
                    clear n0_ n1_ n2_ n3_
                    have n0_ := Aside0.mk (blk_drew BK669.out)
                    have n1_ := Aside0.mk (blk_drew BK670.out)
                    have n2_ := Aside0.mk (blk_drew BK671.out)
                    have n3_ := Aside0.mk (below_drew1 HB.out)
                    clear BK669
                    clear BK670
                    clear BK671
                    clear HB
                    have BK669 := n0_
                    have BK670 := n1_
                    have BK671 := n2_
                    have HB := n3_
                    clear n0_ n1_ n2_ n3_
                    refine start_ (n := 7) (S := fun w' => w'.cell? ⟨gb669, 0, none⟩ = some (.int .i64 t660) ∧ w'.cell? ⟨gb669, 1, none⟩ = some (.int .i64 t661) ∧ w'.cell? ⟨gb669, 2, none⟩ = some (.bool t662) ∧ w'.cell? ⟨gb670, 0, none⟩ = some (.int .i64 t663) ∧ w'.cell? ⟨gb670, 1, none⟩ = some (.int .i64 t664) ∧ w'.cell? ⟨gb670, 2, none⟩ = some (.bool t665) ∧ w'.cell? ⟨gb671, 0, none⟩ = some (.int .i64 t666) ∧ w'.cell? ⟨gb671, 1, none⟩ = some (.int .i64 t667) ∧ w'.cell? ⟨gb671, 2, none⟩ = some (.bool t668)) (ds := []) #[false, false, false, false, false, false, false] (by kernel_rfl) rfl rfl ⟨(blk_cell BK669.out 0).trans rfl, (blk_cell BK669.out 1).trans rfl, (blk_cell BK669.out 2).trans rfl, (blk_cell BK670.out 0).trans rfl, (blk_cell BK670.out 1).trans rfl, (blk_cell BK670.out 2).trans rfl, (blk_cell BK671.out 0).trans rfl, (blk_cell BK671.out 1).trans rfl, (blk_cell BK671.out 2).trans rfl⟩ (fun hHeld => ?_)
                    generalize w39.drew = w40 at BK669 BK670 BK671 HB hHeld ⊢
                    refine take_ (i := 0) (N := some 20) (v := ?_) (a' := ?_) #[true, false, false, false, false, false, false] rfl rfl (by kernel_rfl) (fun _ _ _ h => h) (Or.inl ⟨by rfl, ?_⟩) hHeld ?_ ?_
                    rotate_left
                    · rintro w' ⟨s0, s1, s2, s3, s4, s5, s6, s7, s8⟩
                      go_simp
                      with_reducible rfl
                    rotate_left
                    · simp only [Act.put, List.setIfInBounds_toArray, List.set_cons_zero, List.set_cons_succ, i64_w, i32_w]
                      rfl
                    refine take_ (i := 1) (N := some 21) (v := ?_) (a' := ?_) #[true, true, false, false, false, false, false] rfl rfl (by kernel_rfl) (fun _ _ _ h => h) (Or.inl ⟨by rfl, ?_⟩) hHeld ?_ ?_
                    rotate_left
                    · rintro w' ⟨s0, s1, s2, s3, s4, s5, s6, s7, s8⟩
                      go_simp
                      with_reducible rfl
                    rotate_left
                    · simp only [Act.put, List.setIfInBounds_toArray, List.set_cons_zero, List.set_cons_succ, i64_w, i32_w]
                      rfl
                    refine take_ (i := 3) (N := some 23) (v := ?_) (a' := ?_) #[true, true, false, true, false, false, false] rfl rfl (by kernel_rfl) (fun _ _ _ h => h) (Or.inl ⟨by rfl, ?_⟩) hHeld ?_ ?_
                    rotate_left
                    · rintro w' ⟨s0, s1, s2, s3, s4, s5, s6, s7, s8⟩
                      go_simp
                      with_reducible rfl
                    rotate_left
                    · simp only [Act.put, List.setIfInBounds_toArray, List.set_cons_zero, List.set_cons_succ, i64_w, i32_w]
                      rfl
                    refine join_ (σ := Nat) 1 #[true, true, true, true, true, true, false] (fun s_ => [(22, .agg #[.int .i64 t672, .int .i64 t673, .bool t674]), (24, .agg #[.int .i64 t675, .int .i64 t676, .bool t677]), (6, .pointer (some ⟨s_, 0, none⟩))]) (fun s_ w' => (w'.cell? ⟨gb669, 0, none⟩ = some (.int .i64 t660) ∧ w'.cell? ⟨gb669, 1, none⟩ = some (.int .i64 t661) ∧ w'.cell? ⟨gb669, 2, none⟩ = some (.bool t662) ∧ w'.cell? ⟨gb670, 0, none⟩ = some (.int .i64 t663) ∧ w'.cell? ⟨gb670, 1, none⟩ = some (.int .i64 t664) ∧ w'.cell? ⟨gb670, 2, none⟩ = some (.bool t665) ∧ w'.cell? ⟨gb671, 0, none⟩ = some (.int .i64 t666) ∧ w'.cell? ⟨gb671, 1, none⟩ = some (.int .i64 t667) ∧ w'.cell? ⟨gb671, 2, none⟩ = some (.bool t668)) ∧ (w'.heap[gb669]? = some (.cells #[.int .i64 t660, .int .i64 t661, .bool t662] 25 (0, 0))) ∧ (w'.heap[gb670]? = some (.cells #[.int .i64 t663, .int .i64 t664, .bool t665] 25 (0, 0))) ∧ (w'.heap[gb671]? = some (.cells #[.int .i64 t666, .int .i64 t667, .bool t668] 25 (0, 0))) ∧ (w'.heap[s_]? = some (.cells #[.int .i64 0, .int .i64 0, .bool false] 25 (0, 0))) ∧ (w.heap.size ≤ s_) ∧ (w.heap.size ≤ s_) ∧ (gb669 ≠ s_) ∧ (s_ ≠ gb669) ∧ (gb670 ≠ s_) ∧ (s_ ≠ gb670) ∧ (gb671 ≠ s_) ∧ (s_ ≠ gb671) ∧ (Below w.heap.size w w')) ?_ ?_
                    rotate_left
                    · intro hCont
                      refine two_ (i := 2) (j := 5) (Ni := some 22) (Nj := some 6) #[true, true, true, true, false, false, false] #[true, true, false, true, false, true, false] rfl rfl rfl rfl (by kernel_rfl) (by decide) (by decide) (fun K hK => ?_) (fun K hK => ?_)
                      · skip
                        refine goes_ Try.func19 (by kernel_rfl) rfl #[.agg #[.int .i64 t660, .int .i64 t661, .bool t662], .agg #[.int .i64 t663, .int .i64 t664, .bool t665]] (by rfl) rfl rfl (by (try simp only [List.map_toArray, List.map_cons, List.map_nil]); first | done | rfl | (simp only [List.length_drop, List.length_take]; rfl)) ?_
                        with_reducible refine (impl_PointAdd.calls k t660 t661 t662 t663 t664 t665 t672 t673 t674 _ A5.out).mono ?_
                        rintro e w41 ⟨rfl, hb⟩
                        refine ⟨_, rfl, ?_⟩
                        have n0_ := Aside0.mk (blk_below (g := gb669) (o := .cells #[.int .i64 t660, .int .i64 t661, .bool t662] 25 (0, 0)) (by (with_reducible repeat (first | refine blk_drewN ?_ _ | refine blk_drew ?_ | refine blk_alloc ?_ _)); exact BK669.out) hb)
                        have n1_ := Aside0.mk (blk_below (g := gb670) (o := .cells #[.int .i64 t663, .int .i64 t664, .bool t665] 25 (0, 0)) (by (with_reducible repeat (first | refine blk_drewN ?_ _ | refine blk_drew ?_ | refine blk_alloc ?_ _)); exact BK670.out) hb)
                        have n2_ := Aside0.mk (blk_below (g := gb671) (o := .cells #[.int .i64 t666, .int .i64 t667, .bool t668] 25 (0, 0)) (by (with_reducible repeat (first | refine blk_drewN ?_ _ | refine blk_drew ?_ | refine blk_alloc ?_ _)); exact BK671.out) hb)
                        have n3_ := Aside0.mk (below_step (by repeat (first | (with_reducible first | exact HB.out | apply below_alloc | apply pw_below_drewN | apply below_drew1 | refine below_set ?_ GE669.out | refine below_set ?_ GE670.out | refine below_set ?_ GE671.out) | exact HB.out)) hb)
                        clear BK669
                        clear BK670
                        clear BK671
                        clear HB
                        have BK669 := n0_
                        have BK670 := n1_
                        have BK671 := n2_
                        have HB := n3_
                        clear n0_ n1_ n2_ n3_
                        (try clear hb)
                        (try clear hb2)
                        (try clear hk)
                        (try clear hi)
                        refine hK.out _ _ ⟨(blk_cell BK669.out 0).trans rfl, (blk_cell BK669.out 1).trans rfl, (blk_cell BK669.out 2).trans rfl, (blk_cell BK670.out 0).trans rfl, (blk_cell BK670.out 1).trans rfl, (blk_cell BK670.out 2).trans rfl, (blk_cell BK671.out 0).trans rfl, (blk_cell BK671.out 1).trans rfl, (blk_cell BK671.out 2).trans rfl⟩ (fun hHeld => ?_)
                        clear hK K
                        refine norm_ (a' := ?_) ?_ ?_
                        rotate_left
                        · show Act.put _ (some 22) _ = _
                          simp only [Act.put, List.setIfInBounds_toArray, List.set_cons_zero, List.set_cons_succ, i64_w, i32_w]
                          rfl
                        refine two_ (i := 4) (j := 5) (Ni := some 24) (Nj := some 6) #[true, true, true, true, true, false, false] #[true, true, true, true, false, true, false] rfl rfl rfl rfl (by kernel_rfl) (by decide) (by decide) (fun K hK => ?_) (fun K hK => ?_)
                        · skip
                          refine goes_ Try.func19 (by kernel_rfl) rfl #[.agg #[.int .i64 t672, .int .i64 t673, .bool t674], .agg #[.int .i64 t666, .int .i64 t667, .bool t668]] (by rfl) rfl rfl (by (try simp only [List.map_toArray, List.map_cons, List.map_nil]); first | done | rfl | (simp only [List.length_drop, List.length_take]; rfl)) ?_
                          with_reducible refine (impl_PointAdd.calls k t672 t673 t674 t666 t667 t668 t675 t676 t677 _ A6.out).mono ?_
                          rintro e w42 ⟨rfl, hb⟩
                          refine ⟨_, rfl, ?_⟩
                          have n0_ := Aside0.mk (blk_below (g := gb669) (o := .cells #[.int .i64 t660, .int .i64 t661, .bool t662] 25 (0, 0)) (by (with_reducible repeat (first | refine blk_drewN ?_ _ | refine blk_drew ?_ | refine blk_alloc ?_ _)); exact BK669.out) hb)
                          have n1_ := Aside0.mk (blk_below (g := gb670) (o := .cells #[.int .i64 t663, .int .i64 t664, .bool t665] 25 (0, 0)) (by (with_reducible repeat (first | refine blk_drewN ?_ _ | refine blk_drew ?_ | refine blk_alloc ?_ _)); exact BK670.out) hb)
                          have n2_ := Aside0.mk (blk_below (g := gb671) (o := .cells #[.int .i64 t666, .int .i64 t667, .bool t668] 25 (0, 0)) (by (with_reducible repeat (first | refine blk_drewN ?_ _ | refine blk_drew ?_ | refine blk_alloc ?_ _)); exact BK671.out) hb)
                          have n3_ := Aside0.mk (below_step (by repeat (first | (with_reducible first | exact HB.out | apply below_alloc | apply pw_below_drewN | apply below_drew1 | refine below_set ?_ GE669.out | refine below_set ?_ GE670.out | refine below_set ?_ GE671.out) | exact HB.out)) hb)
                          clear BK669
                          clear BK670
                          clear BK671
                          clear HB
                          have BK669 := n0_
                          have BK670 := n1_
                          have BK671 := n2_
                          have HB := n3_
                          clear n0_ n1_ n2_ n3_
                          (try clear hb)
                          (try clear hb2)
                          (try clear hk)
                          (try clear hi)
                          refine hK.out _ _ ⟨(blk_cell BK669.out 0).trans rfl, (blk_cell BK669.out 1).trans rfl, (blk_cell BK669.out 2).trans rfl, (blk_cell BK670.out 0).trans rfl, (blk_cell BK670.out 1).trans rfl, (blk_cell BK670.out 2).trans rfl, (blk_cell BK671.out 0).trans rfl, (blk_cell BK671.out 1).trans rfl, (blk_cell BK671.out 2).trans rfl⟩ (fun hHeld => ?_)
                          clear hK K
                          refine norm_ (a' := ?_) ?_ ?_
                          rotate_left
                          · show Act.put _ (some 24) _ = _
                            simp only [Act.put, List.setIfInBounds_toArray, List.set_cons_zero, List.set_cons_succ, i64_w, i32_w]
                            rfl
                          refine one_ (i := 5) (N := some 6) #[true, true, true, true, true, true, false] rfl rfl (by kernel_rfl) (by decide) (fun K hK => ?_)
                          refine box_step ?hg (N := 6) ?hd (cs := #[.int .i64 0, .int .i64 0, .bool false]) (t := 25) ?hr ?_; (case hd => rfl); (case hg => rfl); (case hr => first | (go_simp; done) | (go_simp; rfl))
                          intro gb678 hg w43 hbox hb
                          have n0_ := Aside0.mk (blk_below (g := gb669) (o := .cells #[.int .i64 t660, .int .i64 t661, .bool t662] 25 (0, 0)) (by (with_reducible repeat (first | refine blk_drewN ?_ _ | refine blk_drew ?_ | refine blk_alloc ?_ _)); exact BK669.out) hb)
                          have n1_ := Aside0.mk (blk_below (g := gb670) (o := .cells #[.int .i64 t663, .int .i64 t664, .bool t665] 25 (0, 0)) (by (with_reducible repeat (first | refine blk_drewN ?_ _ | refine blk_drew ?_ | refine blk_alloc ?_ _)); exact BK670.out) hb)
                          have n2_ := Aside0.mk (blk_below (g := gb671) (o := .cells #[.int .i64 t666, .int .i64 t667, .bool t668] 25 (0, 0)) (by (with_reducible repeat (first | refine blk_drewN ?_ _ | refine blk_drew ?_ | refine blk_alloc ?_ _)); exact BK671.out) hb)
                          have n3_ := Aside0.mk (below_step (by repeat (first | (with_reducible first | exact HB.out | apply below_alloc | apply pw_below_drewN | apply below_drew1 | refine below_set ?_ GE669.out | refine below_set ?_ GE670.out | refine below_set ?_ GE671.out) | exact HB.out)) hb)
                          have n4_ := Aside0.mk (hbox)
                          have n5_ := Aside0.mk ((by rw [hg]; exact (below_size (by repeat (first | (with_reducible first | exact HB.out | apply below_alloc | apply pw_below_drewN | apply below_drew1 | refine below_set ?_ GE669.out | refine below_set ?_ GE670.out | refine below_set ?_ GE671.out) | exact HB.out))) : w.heap.size ≤ gb678))
                          have n6_ := Aside0.mk ((by rw [hg]; exact (below_size (by repeat (first | (with_reducible first | exact HB.out | apply below_alloc | apply pw_below_drewN | apply below_drew1 | refine below_set ?_ GE669.out | refine below_set ?_ GE670.out | refine below_set ?_ GE671.out) | exact HB.out))) : w.heap.size ≤ gb678))
                          have n7_ := Aside0.mk ((by rw [hg]; exact Nat.ne_of_lt (blk_lt (g := gb669) (o := .cells #[.int .i64 t660, .int .i64 t661, .bool t662] 25 (0, 0)) (by (with_reducible repeat (first | refine blk_drewN ?_ _ | refine blk_drew ?_ | refine blk_alloc ?_ _)); exact BK669.out)) : gb669 ≠ gb678))
                          have n8_ := Aside0.mk ((by rw [hg]; exact Nat.ne_of_gt (blk_lt (g := gb669) (o := .cells #[.int .i64 t660, .int .i64 t661, .bool t662] 25 (0, 0)) (by (with_reducible repeat (first | refine blk_drewN ?_ _ | refine blk_drew ?_ | refine blk_alloc ?_ _)); exact BK669.out)) : gb678 ≠ gb669))
                          have n9_ := Aside0.mk ((by rw [hg]; exact Nat.ne_of_lt (blk_lt (g := gb670) (o := .cells #[.int .i64 t663, .int .i64 t664, .bool t665] 25 (0, 0)) (by (with_reducible repeat (first | refine blk_drewN ?_ _ | refine blk_drew ?_ | refine blk_alloc ?_ _)); exact BK670.out)) : gb670 ≠ gb678))
                          have n10_ := Aside0.mk ((by rw [hg]; exact Nat.ne_of_gt (blk_lt (g := gb670) (o := .cells #[.int .i64 t663, .int .i64 t664, .bool t665] 25 (0, 0)) (by (with_reducible repeat (first | refine blk_drewN ?_ _ | refine blk_drew ?_ | refine blk_alloc ?_ _)); exact BK670.out)) : gb678 ≠ gb670))
                          have n11_ := Aside0.mk ((by rw [hg]; exact Nat.ne_of_lt (blk_lt (g := gb671) (o := .cells #[.int .i64 t666, .int .i64 t667, .bool t668] 25 (0, 0)) (by (with_reducible repeat (first | refine blk_drewN ?_ _ | refine blk_drew ?_ | refine blk_alloc ?_ _)); exact BK671.out)) : gb671 ≠ gb678))
                          have n12_ := Aside0.mk ((by rw [hg]; exact Nat.ne_of_gt (blk_lt (g := gb671) (o := .cells #[.int .i64 t666, .int .i64 t667, .bool t668] 25 (0, 0)) (by (with_reducible repeat (first | refine blk_drewN ?_ _ | refine blk_drew ?_ | refine blk_alloc ?_ _)); exact BK671.out)) : gb678 ≠ gb671))
                          clear BK669
                          clear BK670
                          clear BK671
                          clear HB
                          have BK669 := n0_
                          have BK670 := n1_
                          have BK671 := n2_
                          have HB := n3_
                          have BK678 := n4_
                          have GW678 := n5_
                          have GE678 := n6_
                          have NB669_678 := n7_
                          have NB678_669 := n8_
                          have NB670_678 := n9_
                          have NB678_670 := n10_
                          have NB671_678 := n11_
                          have NB678_671 := n12_
                          clear n0_ n1_ n2_ n3_ n4_ n5_ n6_ n7_ n8_ n9_ n10_ n11_ n12_
                          clear hb hbox hg
                          refine hK.out _ _ ⟨(blk_cell BK669.out 0).trans rfl, (blk_cell BK669.out 1).trans rfl, (blk_cell BK669.out 2).trans rfl, (blk_cell BK670.out 0).trans rfl, (blk_cell BK670.out 1).trans rfl, (blk_cell BK670.out 2).trans rfl, (blk_cell BK671.out 0).trans rfl, (blk_cell BK671.out 1).trans rfl, (blk_cell BK671.out 2).trans rfl⟩ (fun hHeld => ?_)
                          clear hK K
                          refine norm_ (a' := ?_) ?_ ?_
                          rotate_left
                          · show Act.put _ (some 6) _ = _
                            simp only [Act.put, List.setIfInBounds_toArray, List.set_cons_zero, List.set_cons_succ, i64_w, i32_w]
                            rfl
                          exact norm_ (by simp only [putAll, Act.put, List.setIfInBounds_toArray, List.set_cons_zero, List.set_cons_succ]) (hCont (gb678) _ ⟨hHeld, (by (with_reducible repeat (first | refine blk_drewN ?_ _ | refine blk_drew ?_ | refine blk_alloc ?_ _)); exact BK669.out), (by (with_reducible repeat (first | refine blk_drewN ?_ _ | refine blk_drew ?_ | refine blk_alloc ?_ _)); exact BK670.out), (by (with_reducible repeat (first | refine blk_drewN ?_ _ | refine blk_drew ?_ | refine blk_alloc ?_ _)); exact BK671.out), (by (with_reducible repeat (first | refine blk_drewN ?_ _ | refine blk_drew ?_ | refine blk_alloc ?_ _)); exact BK678.out), GW678.out, GE678.out, NB669_678.out, NB678_669.out, NB670_678.out, NB678_670.out, NB671_678.out, NB678_671.out, (by repeat (first | (with_reducible first | exact HB.out | apply below_alloc | apply pw_below_drewN | apply below_drew1 | refine below_set ?_ GE669.out | refine below_set ?_ GE670.out | refine below_set ?_ GE671.out | refine below_set ?_ GE678.out) | exact HB.out))⟩)
                        · skip
                          refine box_step ?hg (N := 6) ?hd (cs := #[.int .i64 0, .int .i64 0, .bool false]) (t := 25) ?hr ?_; (case hd => rfl); (case hg => rfl); (case hr => first | (go_simp; done) | (go_simp; rfl))
                          intro gb678 hg w42 hbox hb
                          have n0_ := Aside0.mk (blk_below (g := gb669) (o := .cells #[.int .i64 t660, .int .i64 t661, .bool t662] 25 (0, 0)) (by (with_reducible repeat (first | refine blk_drewN ?_ _ | refine blk_drew ?_ | refine blk_alloc ?_ _)); exact BK669.out) hb)
                          have n1_ := Aside0.mk (blk_below (g := gb670) (o := .cells #[.int .i64 t663, .int .i64 t664, .bool t665] 25 (0, 0)) (by (with_reducible repeat (first | refine blk_drewN ?_ _ | refine blk_drew ?_ | refine blk_alloc ?_ _)); exact BK670.out) hb)
                          have n2_ := Aside0.mk (blk_below (g := gb671) (o := .cells #[.int .i64 t666, .int .i64 t667, .bool t668] 25 (0, 0)) (by (with_reducible repeat (first | refine blk_drewN ?_ _ | refine blk_drew ?_ | refine blk_alloc ?_ _)); exact BK671.out) hb)
                          have n3_ := Aside0.mk (below_step (by repeat (first | (with_reducible first | exact HB.out | apply below_alloc | apply pw_below_drewN | apply below_drew1 | refine below_set ?_ GE669.out | refine below_set ?_ GE670.out | refine below_set ?_ GE671.out) | exact HB.out)) hb)
                          have n4_ := Aside0.mk (hbox)
                          have n5_ := Aside0.mk ((by rw [hg]; exact (below_size (by repeat (first | (with_reducible first | exact HB.out | apply below_alloc | apply pw_below_drewN | apply below_drew1 | refine below_set ?_ GE669.out | refine below_set ?_ GE670.out | refine below_set ?_ GE671.out) | exact HB.out))) : w.heap.size ≤ gb678))
                          have n6_ := Aside0.mk ((by rw [hg]; exact (below_size (by repeat (first | (with_reducible first | exact HB.out | apply below_alloc | apply pw_below_drewN | apply below_drew1 | refine below_set ?_ GE669.out | refine below_set ?_ GE670.out | refine below_set ?_ GE671.out) | exact HB.out))) : w.heap.size ≤ gb678))
                          have n7_ := Aside0.mk ((by rw [hg]; exact Nat.ne_of_lt (blk_lt (g := gb669) (o := .cells #[.int .i64 t660, .int .i64 t661, .bool t662] 25 (0, 0)) (by (with_reducible repeat (first | refine blk_drewN ?_ _ | refine blk_drew ?_ | refine blk_alloc ?_ _)); exact BK669.out)) : gb669 ≠ gb678))
                          have n8_ := Aside0.mk ((by rw [hg]; exact Nat.ne_of_gt (blk_lt (g := gb669) (o := .cells #[.int .i64 t660, .int .i64 t661, .bool t662] 25 (0, 0)) (by (with_reducible repeat (first | refine blk_drewN ?_ _ | refine blk_drew ?_ | refine blk_alloc ?_ _)); exact BK669.out)) : gb678 ≠ gb669))
                          have n9_ := Aside0.mk ((by rw [hg]; exact Nat.ne_of_lt (blk_lt (g := gb670) (o := .cells #[.int .i64 t663, .int .i64 t664, .bool t665] 25 (0, 0)) (by (with_reducible repeat (first | refine blk_drewN ?_ _ | refine blk_drew ?_ | refine blk_alloc ?_ _)); exact BK670.out)) : gb670 ≠ gb678))
                          have n10_ := Aside0.mk ((by rw [hg]; exact Nat.ne_of_gt (blk_lt (g := gb670) (o := .cells #[.int .i64 t663, .int .i64 t664, .bool t665] 25 (0, 0)) (by (with_reducible repeat (first | refine blk_drewN ?_ _ | refine blk_drew ?_ | refine blk_alloc ?_ _)); exact BK670.out)) : gb678 ≠ gb670))
                          have n11_ := Aside0.mk ((by rw [hg]; exact Nat.ne_of_lt (blk_lt (g := gb671) (o := .cells #[.int .i64 t666, .int .i64 t667, .bool t668] 25 (0, 0)) (by (with_reducible repeat (first | refine blk_drewN ?_ _ | refine blk_drew ?_ | refine blk_alloc ?_ _)); exact BK671.out)) : gb671 ≠ gb678))
                          have n12_ := Aside0.mk ((by rw [hg]; exact Nat.ne_of_gt (blk_lt (g := gb671) (o := .cells #[.int .i64 t666, .int .i64 t667, .bool t668] 25 (0, 0)) (by (with_reducible repeat (first | refine blk_drewN ?_ _ | refine blk_drew ?_ | refine blk_alloc ?_ _)); exact BK671.out)) : gb678 ≠ gb671))
                          clear BK669
                          clear BK670
                          clear BK671
                          clear HB
                          have BK669 := n0_
                          have BK670 := n1_
                          have BK671 := n2_
                          have HB := n3_
                          have BK678 := n4_
                          have GW678 := n5_
                          have GE678 := n6_
                          have NB669_678 := n7_
                          have NB678_669 := n8_
                          have NB670_678 := n9_
                          have NB678_670 := n10_
                          have NB671_678 := n11_
                          have NB678_671 := n12_
                          clear n0_ n1_ n2_ n3_ n4_ n5_ n6_ n7_ n8_ n9_ n10_ n11_ n12_
                          clear hb hbox hg
                          refine hK.out _ _ ⟨(blk_cell BK669.out 0).trans rfl, (blk_cell BK669.out 1).trans rfl, (blk_cell BK669.out 2).trans rfl, (blk_cell BK670.out 0).trans rfl, (blk_cell BK670.out 1).trans rfl, (blk_cell BK670.out 2).trans rfl, (blk_cell BK671.out 0).trans rfl, (blk_cell BK671.out 1).trans rfl, (blk_cell BK671.out 2).trans rfl⟩ (fun hHeld => ?_)
                          clear hK K
                          refine norm_ (a' := ?_) ?_ ?_
                          rotate_left
                          · show Act.put _ (some 6) _ = _
                            simp only [Act.put, List.setIfInBounds_toArray, List.set_cons_zero, List.set_cons_succ, i64_w, i32_w]
                            rfl
                          refine one_ (i := 4) (N := some 24) #[true, true, true, true, true, true, false] rfl rfl (by kernel_rfl) (by decide) (fun K hK => ?_)
                          refine goes_ Try.func19 (by kernel_rfl) rfl #[.agg #[.int .i64 t672, .int .i64 t673, .bool t674], .agg #[.int .i64 t666, .int .i64 t667, .bool t668]] (by rfl) rfl rfl (by (try simp only [List.map_toArray, List.map_cons, List.map_nil]); first | done | rfl | (simp only [List.length_drop, List.length_take]; rfl)) ?_
                          with_reducible refine (impl_PointAdd.calls k t672 t673 t674 t666 t667 t668 t675 t676 t677 _ A6.out).mono ?_
                          rintro e w43 ⟨rfl, hb⟩
                          refine ⟨_, rfl, ?_⟩
                          have n0_ := Aside0.mk (blk_below (g := gb669) (o := .cells #[.int .i64 t660, .int .i64 t661, .bool t662] 25 (0, 0)) (by (with_reducible repeat (first | refine blk_drewN ?_ _ | refine blk_drew ?_ | refine blk_alloc ?_ _)); exact BK669.out) hb)
                          have n1_ := Aside0.mk (blk_below (g := gb670) (o := .cells #[.int .i64 t663, .int .i64 t664, .bool t665] 25 (0, 0)) (by (with_reducible repeat (first | refine blk_drewN ?_ _ | refine blk_drew ?_ | refine blk_alloc ?_ _)); exact BK670.out) hb)
                          have n2_ := Aside0.mk (blk_below (g := gb671) (o := .cells #[.int .i64 t666, .int .i64 t667, .bool t668] 25 (0, 0)) (by (with_reducible repeat (first | refine blk_drewN ?_ _ | refine blk_drew ?_ | refine blk_alloc ?_ _)); exact BK671.out) hb)
                          have n3_ := Aside0.mk (blk_below (g := gb678) (o := .cells #[.int .i64 0, .int .i64 0, .bool false] 25 (0, 0)) (by (with_reducible repeat (first | refine blk_drewN ?_ _ | refine blk_drew ?_ | refine blk_alloc ?_ _)); exact BK678.out) hb)
                          have n4_ := Aside0.mk (below_step (by repeat (first | (with_reducible first | exact HB.out | apply below_alloc | apply pw_below_drewN | apply below_drew1 | refine below_set ?_ GE669.out | refine below_set ?_ GE670.out | refine below_set ?_ GE671.out | refine below_set ?_ GE678.out) | exact HB.out)) hb)
                          clear BK669
                          clear BK670
                          clear BK671
                          clear BK678
                          clear HB
                          have BK669 := n0_
                          have BK670 := n1_
                          have BK671 := n2_
                          have BK678 := n3_
                          have HB := n4_
                          clear n0_ n1_ n2_ n3_ n4_
                          (try clear hb)
                          (try clear hb2)
                          (try clear hk)
                          (try clear hi)
                          refine hK.out _ _ ⟨(blk_cell BK669.out 0).trans rfl, (blk_cell BK669.out 1).trans rfl, (blk_cell BK669.out 2).trans rfl, (blk_cell BK670.out 0).trans rfl, (blk_cell BK670.out 1).trans rfl, (blk_cell BK670.out 2).trans rfl, (blk_cell BK671.out 0).trans rfl, (blk_cell BK671.out 1).trans rfl, (blk_cell BK671.out 2).trans rfl⟩ (fun hHeld => ?_)
                          clear hK K
                          refine norm_ (a' := ?_) ?_ ?_
                          rotate_left
                          · show Act.put _ (some 24) _ = _
                            simp only [Act.put, List.setIfInBounds_toArray, List.set_cons_zero, List.set_cons_succ, i64_w, i32_w]
                            rfl
                          exact norm_ (by simp only [putAll, Act.put, List.setIfInBounds_toArray, List.set_cons_zero, List.set_cons_succ]) (hCont (gb678) _ ⟨hHeld, (by (with_reducible repeat (first | refine blk_drewN ?_ _ | refine blk_drew ?_ | refine blk_alloc ?_ _)); exact BK669.out), (by (with_reducible repeat (first | refine blk_drewN ?_ _ | refine blk_drew ?_ | refine blk_alloc ?_ _)); exact BK670.out), (by (with_reducible repeat (first | refine blk_drewN ?_ _ | refine blk_drew ?_ | refine blk_alloc ?_ _)); exact BK671.out), (by (with_reducible repeat (first | refine blk_drewN ?_ _ | refine blk_drew ?_ | refine blk_alloc ?_ _)); exact BK678.out), GW678.out, GE678.out, NB669_678.out, NB678_669.out, NB670_678.out, NB678_670.out, NB671_678.out, NB678_671.out, (by repeat (first | (with_reducible first | exact HB.out | apply below_alloc | apply pw_below_drewN | apply below_drew1 | refine below_set ?_ GE669.out | refine below_set ?_ GE670.out | refine below_set ?_ GE671.out | refine below_set ?_ GE678.out) | exact HB.out))⟩)
                      · skip
                        refine box_step ?hg (N := 6) ?hd (cs := #[.int .i64 0, .int .i64 0, .bool false]) (t := 25) ?hr ?_; (case hd => rfl); (case hg => rfl); (case hr => first | (go_simp; done) | (go_simp; rfl))
                        intro gb678 hg w41 hbox hb
                        have n0_ := Aside0.mk (blk_below (g := gb669) (o := .cells #[.int .i64 t660, .int .i64 t661, .bool t662] 25 (0, 0)) (by (with_reducible repeat (first | refine blk_drewN ?_ _ | refine blk_drew ?_ | refine blk_alloc ?_ _)); exact BK669.out) hb)
                        have n1_ := Aside0.mk (blk_below (g := gb670) (o := .cells #[.int .i64 t663, .int .i64 t664, .bool t665] 25 (0, 0)) (by (with_reducible repeat (first | refine blk_drewN ?_ _ | refine blk_drew ?_ | refine blk_alloc ?_ _)); exact BK670.out) hb)
                        have n2_ := Aside0.mk (blk_below (g := gb671) (o := .cells #[.int .i64 t666, .int .i64 t667, .bool t668] 25 (0, 0)) (by (with_reducible repeat (first | refine blk_drewN ?_ _ | refine blk_drew ?_ | refine blk_alloc ?_ _)); exact BK671.out) hb)
                        have n3_ := Aside0.mk (below_step (by repeat (first | (with_reducible first | exact HB.out | apply below_alloc | apply pw_below_drewN | apply below_drew1 | refine below_set ?_ GE669.out | refine below_set ?_ GE670.out | refine below_set ?_ GE671.out) | exact HB.out)) hb)
                        have n4_ := Aside0.mk (hbox)
                        have n5_ := Aside0.mk ((by rw [hg]; exact (below_size (by repeat (first | (with_reducible first | exact HB.out | apply below_alloc | apply pw_below_drewN | apply below_drew1 | refine below_set ?_ GE669.out | refine below_set ?_ GE670.out | refine below_set ?_ GE671.out) | exact HB.out))) : w.heap.size ≤ gb678))
                        have n6_ := Aside0.mk ((by rw [hg]; exact (below_size (by repeat (first | (with_reducible first | exact HB.out | apply below_alloc | apply pw_below_drewN | apply below_drew1 | refine below_set ?_ GE669.out | refine below_set ?_ GE670.out | refine below_set ?_ GE671.out) | exact HB.out))) : w.heap.size ≤ gb678))
                        have n7_ := Aside0.mk ((by rw [hg]; exact Nat.ne_of_lt (blk_lt (g := gb669) (o := .cells #[.int .i64 t660, .int .i64 t661, .bool t662] 25 (0, 0)) (by (with_reducible repeat (first | refine blk_drewN ?_ _ | refine blk_drew ?_ | refine blk_alloc ?_ _)); exact BK669.out)) : gb669 ≠ gb678))
                        have n8_ := Aside0.mk ((by rw [hg]; exact Nat.ne_of_gt (blk_lt (g := gb669) (o := .cells #[.int .i64 t660, .int .i64 t661, .bool t662] 25 (0, 0)) (by (with_reducible repeat (first | refine blk_drewN ?_ _ | refine blk_drew ?_ | refine blk_alloc ?_ _)); exact BK669.out)) : gb678 ≠ gb669))
                        have n9_ := Aside0.mk ((by rw [hg]; exact Nat.ne_of_lt (blk_lt (g := gb670) (o := .cells #[.int .i64 t663, .int .i64 t664, .bool t665] 25 (0, 0)) (by (with_reducible repeat (first | refine blk_drewN ?_ _ | refine blk_drew ?_ | refine blk_alloc ?_ _)); exact BK670.out)) : gb670 ≠ gb678))
                        have n10_ := Aside0.mk ((by rw [hg]; exact Nat.ne_of_gt (blk_lt (g := gb670) (o := .cells #[.int .i64 t663, .int .i64 t664, .bool t665] 25 (0, 0)) (by (with_reducible repeat (first | refine blk_drewN ?_ _ | refine blk_drew ?_ | refine blk_alloc ?_ _)); exact BK670.out)) : gb678 ≠ gb670))
                        have n11_ := Aside0.mk ((by rw [hg]; exact Nat.ne_of_lt (blk_lt (g := gb671) (o := .cells #[.int .i64 t666, .int .i64 t667, .bool t668] 25 (0, 0)) (by (with_reducible repeat (first | refine blk_drewN ?_ _ | refine blk_drew ?_ | refine blk_alloc ?_ _)); exact BK671.out)) : gb671 ≠ gb678))
                        have n12_ := Aside0.mk ((by rw [hg]; exact Nat.ne_of_gt (blk_lt (g := gb671) (o := .cells #[.int .i64 t666, .int .i64 t667, .bool t668] 25 (0, 0)) (by (with_reducible repeat (first | refine blk_drewN ?_ _ | refine blk_drew ?_ | refine blk_alloc ?_ _)); exact BK671.out)) : gb678 ≠ gb671))
                        clear BK669
                        clear BK670
                        clear BK671
                        clear HB
                        have BK669 := n0_
                        have BK670 := n1_
                        have BK671 := n2_
                        have HB := n3_
                        have BK678 := n4_
                        have GW678 := n5_
                        have GE678 := n6_
                        have NB669_678 := n7_
                        have NB678_669 := n8_
                        have NB670_678 := n9_
                        have NB678_670 := n10_
                        have NB671_678 := n11_
                        have NB678_671 := n12_
                        clear n0_ n1_ n2_ n3_ n4_ n5_ n6_ n7_ n8_ n9_ n10_ n11_ n12_
                        clear hb hbox hg
                        refine hK.out _ _ ⟨(blk_cell BK669.out 0).trans rfl, (blk_cell BK669.out 1).trans rfl, (blk_cell BK669.out 2).trans rfl, (blk_cell BK670.out 0).trans rfl, (blk_cell BK670.out 1).trans rfl, (blk_cell BK670.out 2).trans rfl, (blk_cell BK671.out 0).trans rfl, (blk_cell BK671.out 1).trans rfl, (blk_cell BK671.out 2).trans rfl⟩ (fun hHeld => ?_)
                        clear hK K
                        refine norm_ (a' := ?_) ?_ ?_
                        rotate_left
                        · show Act.put _ (some 6) _ = _
                          simp only [Act.put, List.setIfInBounds_toArray, List.set_cons_zero, List.set_cons_succ, i64_w, i32_w]
                          rfl
                        refine one_ (i := 2) (N := some 22) #[true, true, true, true, false, true, false] rfl rfl (by kernel_rfl) (by decide) (fun K hK => ?_)
                        refine goes_ Try.func19 (by kernel_rfl) rfl #[.agg #[.int .i64 t660, .int .i64 t661, .bool t662], .agg #[.int .i64 t663, .int .i64 t664, .bool t665]] (by rfl) rfl rfl (by (try simp only [List.map_toArray, List.map_cons, List.map_nil]); first | done | rfl | (simp only [List.length_drop, List.length_take]; rfl)) ?_
                        with_reducible refine (impl_PointAdd.calls k t660 t661 t662 t663 t664 t665 t672 t673 t674 _ A5.out).mono ?_
                        rintro e w42 ⟨rfl, hb⟩
                        refine ⟨_, rfl, ?_⟩
                        have n0_ := Aside0.mk (blk_below (g := gb669) (o := .cells #[.int .i64 t660, .int .i64 t661, .bool t662] 25 (0, 0)) (by (with_reducible repeat (first | refine blk_drewN ?_ _ | refine blk_drew ?_ | refine blk_alloc ?_ _)); exact BK669.out) hb)
                        have n1_ := Aside0.mk (blk_below (g := gb670) (o := .cells #[.int .i64 t663, .int .i64 t664, .bool t665] 25 (0, 0)) (by (with_reducible repeat (first | refine blk_drewN ?_ _ | refine blk_drew ?_ | refine blk_alloc ?_ _)); exact BK670.out) hb)
                        have n2_ := Aside0.mk (blk_below (g := gb671) (o := .cells #[.int .i64 t666, .int .i64 t667, .bool t668] 25 (0, 0)) (by (with_reducible repeat (first | refine blk_drewN ?_ _ | refine blk_drew ?_ | refine blk_alloc ?_ _)); exact BK671.out) hb)
                        have n3_ := Aside0.mk (blk_below (g := gb678) (o := .cells #[.int .i64 0, .int .i64 0, .bool false] 25 (0, 0)) (by (with_reducible repeat (first | refine blk_drewN ?_ _ | refine blk_drew ?_ | refine blk_alloc ?_ _)); exact BK678.out) hb)
                        have n4_ := Aside0.mk (below_step (by repeat (first | (with_reducible first | exact HB.out | apply below_alloc | apply pw_below_drewN | apply below_drew1 | refine below_set ?_ GE669.out | refine below_set ?_ GE670.out | refine below_set ?_ GE671.out | refine below_set ?_ GE678.out) | exact HB.out)) hb)
                        clear BK669
                        clear BK670
                        clear BK671
                        clear BK678
                        clear HB
                        have BK669 := n0_
                        have BK670 := n1_
                        have BK671 := n2_
                        have BK678 := n3_
                        have HB := n4_
                        clear n0_ n1_ n2_ n3_ n4_
                        (try clear hb)
                        (try clear hb2)
                        (try clear hk)
                        (try clear hi)
                        refine hK.out _ _ ⟨(blk_cell BK669.out 0).trans rfl, (blk_cell BK669.out 1).trans rfl, (blk_cell BK669.out 2).trans rfl, (blk_cell BK670.out 0).trans rfl, (blk_cell BK670.out 1).trans rfl, (blk_cell BK670.out 2).trans rfl, (blk_cell BK671.out 0).trans rfl, (blk_cell BK671.out 1).trans rfl, (blk_cell BK671.out 2).trans rfl⟩ (fun hHeld => ?_)
                        clear hK K
                        refine norm_ (a' := ?_) ?_ ?_
                        rotate_left
                        · show Act.put _ (some 22) _ = _
                          simp only [Act.put, List.setIfInBounds_toArray, List.set_cons_zero, List.set_cons_succ, i64_w, i32_w]
                          rfl
                        refine one_ (i := 4) (N := some 24) #[true, true, true, true, true, true, false] rfl rfl (by kernel_rfl) (by decide) (fun K hK => ?_)
                        refine goes_ Try.func19 (by kernel_rfl) rfl #[.agg #[.int .i64 t672, .int .i64 t673, .bool t674], .agg #[.int .i64 t666, .int .i64 t667, .bool t668]] (by rfl) rfl rfl (by (try simp only [List.map_toArray, List.map_cons, List.map_nil]); first | done | rfl | (simp only [List.length_drop, List.length_take]; rfl)) ?_
                        with_reducible refine (impl_PointAdd.calls k t672 t673 t674 t666 t667 t668 t675 t676 t677 _ A6.out).mono ?_
                        rintro e w43 ⟨rfl, hb⟩
                        refine ⟨_, rfl, ?_⟩
                        have n0_ := Aside0.mk (blk_below (g := gb669) (o := .cells #[.int .i64 t660, .int .i64 t661, .bool t662] 25 (0, 0)) (by (with_reducible repeat (first | refine blk_drewN ?_ _ | refine blk_drew ?_ | refine blk_alloc ?_ _)); exact BK669.out) hb)
                        have n1_ := Aside0.mk (blk_below (g := gb670) (o := .cells #[.int .i64 t663, .int .i64 t664, .bool t665] 25 (0, 0)) (by (with_reducible repeat (first | refine blk_drewN ?_ _ | refine blk_drew ?_ | refine blk_alloc ?_ _)); exact BK670.out) hb)
                        have n2_ := Aside0.mk (blk_below (g := gb671) (o := .cells #[.int .i64 t666, .int .i64 t667, .bool t668] 25 (0, 0)) (by (with_reducible repeat (first | refine blk_drewN ?_ _ | refine blk_drew ?_ | refine blk_alloc ?_ _)); exact BK671.out) hb)
                        have n3_ := Aside0.mk (blk_below (g := gb678) (o := .cells #[.int .i64 0, .int .i64 0, .bool false] 25 (0, 0)) (by (with_reducible repeat (first | refine blk_drewN ?_ _ | refine blk_drew ?_ | refine blk_alloc ?_ _)); exact BK678.out) hb)
                        have n4_ := Aside0.mk (below_step (by repeat (first | (with_reducible first | exact HB.out | apply below_alloc | apply pw_below_drewN | apply below_drew1 | refine below_set ?_ GE669.out | refine below_set ?_ GE670.out | refine below_set ?_ GE671.out | refine below_set ?_ GE678.out) | exact HB.out)) hb)
                        clear BK669
                        clear BK670
                        clear BK671
                        clear BK678
                        clear HB
                        have BK669 := n0_
                        have BK670 := n1_
                        have BK671 := n2_
                        have BK678 := n3_
                        have HB := n4_
                        clear n0_ n1_ n2_ n3_ n4_
                        (try clear hb)
                        (try clear hb2)
                        (try clear hk)
                        (try clear hi)
                        refine hK.out _ _ ⟨(blk_cell BK669.out 0).trans rfl, (blk_cell BK669.out 1).trans rfl, (blk_cell BK669.out 2).trans rfl, (blk_cell BK670.out 0).trans rfl, (blk_cell BK670.out 1).trans rfl, (blk_cell BK670.out 2).trans rfl, (blk_cell BK671.out 0).trans rfl, (blk_cell BK671.out 1).trans rfl, (blk_cell BK671.out 2).trans rfl⟩ (fun hHeld => ?_)
                        clear hK K
                        refine norm_ (a' := ?_) ?_ ?_
                        rotate_left
                        · show Act.put _ (some 24) _ = _
                          simp only [Act.put, List.setIfInBounds_toArray, List.set_cons_zero, List.set_cons_succ, i64_w, i32_w]
                          rfl
                        exact norm_ (by simp only [putAll, Act.put, List.setIfInBounds_toArray, List.set_cons_zero, List.set_cons_succ]) (hCont (gb678) _ ⟨hHeld, (by (with_reducible repeat (first | refine blk_drewN ?_ _ | refine blk_drew ?_ | refine blk_alloc ?_ _)); exact BK669.out), (by (with_reducible repeat (first | refine blk_drewN ?_ _ | refine blk_drew ?_ | refine blk_alloc ?_ _)); exact BK670.out), (by (with_reducible repeat (first | refine blk_drewN ?_ _ | refine blk_drew ?_ | refine blk_alloc ?_ _)); exact BK671.out), (by (with_reducible repeat (first | refine blk_drewN ?_ _ | refine blk_drew ?_ | refine blk_alloc ?_ _)); exact BK678.out), GW678.out, GE678.out, NB669_678.out, NB678_669.out, NB670_678.out, NB678_670.out, NB671_678.out, NB678_671.out, (by repeat (first | (with_reducible first | exact HB.out | apply below_alloc | apply pw_below_drewN | apply below_drew1 | refine below_set ?_ GE669.out | refine below_set ?_ GE670.out | refine below_set ?_ GE671.out | refine below_set ?_ GE678.out) | exact HB.out))⟩)
                    rintro gb678 w44 ⟨hS_, h0_, h1_, h2_, h3_, h4_, h5_, h6_, h7_, h8_, h9_, h10_, h11_, h12_⟩
                    have n0_ : Aside0 (w44.heap[gb669]? = some (.cells #[.int .i64 t660, .int .i64 t661, .bool t662] 25 (0, 0))) := ⟨h0_⟩
                    have n1_ : Aside0 (w44.heap[gb670]? = some (.cells #[.int .i64 t663, .int .i64 t664, .bool t665] 25 (0, 0))) := ⟨h1_⟩
                    have n2_ : Aside0 (w44.heap[gb671]? = some (.cells #[.int .i64 t666, .int .i64 t667, .bool t668] 25 (0, 0))) := ⟨h2_⟩
                    have n3_ : Aside0 (w44.heap[gb678]? = some (.cells #[.int .i64 0, .int .i64 0, .bool false] 25 (0, 0))) := ⟨h3_⟩
                    have n4_ : Aside0 (w.heap.size ≤ gb678) := ⟨h4_⟩
                    have n5_ : Aside0 (w.heap.size ≤ gb678) := ⟨h5_⟩
                    have n6_ : Aside0 (gb669 ≠ gb678) := ⟨h6_⟩
                    have n7_ : Aside0 (gb678 ≠ gb669) := ⟨h7_⟩
                    have n8_ : Aside0 (gb670 ≠ gb678) := ⟨h8_⟩
                    have n9_ : Aside0 (gb678 ≠ gb670) := ⟨h9_⟩
                    have n10_ : Aside0 (gb671 ≠ gb678) := ⟨h10_⟩
                    have n11_ : Aside0 (gb678 ≠ gb671) := ⟨h11_⟩
                    have n12_ : Aside0 (Below w.heap.size w w44) := ⟨h12_⟩
                    clear BK669
                    clear BK670
                    clear BK671
                    clear HB
                    clear h0_ h1_ h2_ h3_ h4_ h5_ h6_ h7_ h8_ h9_ h10_ h11_ h12_
                    have BK669 := n0_
                    have BK670 := n1_
                    have BK671 := n2_
                    have BK678 := n3_
                    have GW678 := n4_
                    have GE678 := n5_
                    have NB669_678 := n6_
                    have NB678_669 := n7_
                    have NB670_678 := n8_
                    have NB678_670 := n9_
                    have NB671_678 := n10_
                    have NB678_671 := n11_
                    have HB := n12_
                    clear n0_ n1_ n2_ n3_ n4_ n5_ n6_ n7_ n8_ n9_ n10_ n11_ n12_
                    have hHeld : w44.cell? ⟨gb669, 0, none⟩ = some (.int .i64 t660) ∧ w44.cell? ⟨gb669, 1, none⟩ = some (.int .i64 t661) ∧ w44.cell? ⟨gb669, 2, none⟩ = some (.bool t662) ∧ w44.cell? ⟨gb670, 0, none⟩ = some (.int .i64 t663) ∧ w44.cell? ⟨gb670, 1, none⟩ = some (.int .i64 t664) ∧ w44.cell? ⟨gb670, 2, none⟩ = some (.bool t665) ∧ w44.cell? ⟨gb671, 0, none⟩ = some (.int .i64 t666) ∧ w44.cell? ⟨gb671, 1, none⟩ = some (.int .i64 t667) ∧ w44.cell? ⟨gb671, 2, none⟩ = some (.bool t668) := hS_
                    refine norm_ (a' := ?_) ?_ ?_
                    rotate_left
                    · simp only [putAll, Act.put, List.setIfInBounds_toArray, List.set_cons_zero, List.set_cons_succ]
                      rfl
                    refine one_ (i := 6) (N := none) #[true, true, true, true, true, true, true] rfl rfl (by kernel_rfl) (by decide) (fun K hK => ?_)
                    have hs45 : w44.cell? ⟨gb678, 0, none⟩ = some (.int .i64 0) := (blk_cell BK678.out 0).trans rfl
                    have hfs45 := blk_frozen BK678.out 0
                    have hns45_0 := NB669_678.out
                    have hns45_1 := NB670_678.out
                    have hns45_2 := NB671_678.out
                    have hms45_0 := NB678_669.out
                    have hms45_1 := NB678_670.out
                    have hms45_2 := NB678_671.out
                    have hs46 : w44.cell? ⟨gb678, 1, none⟩ = some (.int .i64 0) := (blk_cell BK678.out 1).trans rfl
                    have hfs46 := blk_frozen BK678.out 1
                    have hns46_0 := NB669_678.out
                    have hns46_1 := NB670_678.out
                    have hns46_2 := NB671_678.out
                    have hms46_0 := NB678_669.out
                    have hms46_1 := NB678_670.out
                    have hms46_2 := NB678_671.out
                    have hs47 : w44.cell? ⟨gb678, 2, none⟩ = some (.bool false) := (blk_cell BK678.out 2).trans rfl
                    have hfs47 := blk_frozen BK678.out 2
                    have hns47_0 := NB669_678.out
                    have hns47_1 := NB670_678.out
                    have hns47_2 := NB671_678.out
                    have hms47_0 := NB678_669.out
                    have hms47_1 := NB678_670.out
                    have hms47_2 := NB678_671.out
                    refine skip_ (w1 := ?_) (by rfl) rfl ?_ ?_
                    rotate_left
                    · go_simp
                      rfl
                    refine hK.out _ _ ⟨((cell_far (p := ⟨gb678, _, none⟩) NB669_678.out _).trans (((cell_far (p := ⟨gb678, _, none⟩) NB669_678.out _).trans (((cell_far (p := ⟨gb678, _, none⟩) NB669_678.out _).trans (hHeld.1)))))), ((cell_far (p := ⟨gb678, _, none⟩) NB669_678.out _).trans (((cell_far (p := ⟨gb678, _, none⟩) NB669_678.out _).trans (((cell_far (p := ⟨gb678, _, none⟩) NB669_678.out _).trans (hHeld.2.1)))))), ((cell_far (p := ⟨gb678, _, none⟩) NB669_678.out _).trans (((cell_far (p := ⟨gb678, _, none⟩) NB669_678.out _).trans (((cell_far (p := ⟨gb678, _, none⟩) NB669_678.out _).trans (hHeld.2.2.1)))))), ((cell_far (p := ⟨gb678, _, none⟩) NB670_678.out _).trans (((cell_far (p := ⟨gb678, _, none⟩) NB670_678.out _).trans (((cell_far (p := ⟨gb678, _, none⟩) NB670_678.out _).trans (hHeld.2.2.2.1)))))), ((cell_far (p := ⟨gb678, _, none⟩) NB670_678.out _).trans (((cell_far (p := ⟨gb678, _, none⟩) NB670_678.out _).trans (((cell_far (p := ⟨gb678, _, none⟩) NB670_678.out _).trans (hHeld.2.2.2.2.1)))))), ((cell_far (p := ⟨gb678, _, none⟩) NB670_678.out _).trans (((cell_far (p := ⟨gb678, _, none⟩) NB670_678.out _).trans (((cell_far (p := ⟨gb678, _, none⟩) NB670_678.out _).trans (hHeld.2.2.2.2.2.1)))))), ((cell_far (p := ⟨gb678, _, none⟩) NB671_678.out _).trans (((cell_far (p := ⟨gb678, _, none⟩) NB671_678.out _).trans (((cell_far (p := ⟨gb678, _, none⟩) NB671_678.out _).trans (hHeld.2.2.2.2.2.2.1)))))), ((cell_far (p := ⟨gb678, _, none⟩) NB671_678.out _).trans (((cell_far (p := ⟨gb678, _, none⟩) NB671_678.out _).trans (((cell_far (p := ⟨gb678, _, none⟩) NB671_678.out _).trans (hHeld.2.2.2.2.2.2.2.1)))))), ((cell_far (p := ⟨gb678, _, none⟩) NB671_678.out _).trans (((cell_far (p := ⟨gb678, _, none⟩) NB671_678.out _).trans (((cell_far (p := ⟨gb678, _, none⟩) NB671_678.out _).trans (hHeld.2.2.2.2.2.2.2.2))))))⟩ (fun hHeld => ?_)
                    clear hK K
                    refine done_ (by kernel_rfl) ?_
                    try go_wp2
                    have n0_ : Aside0 ((((w44.setCell ⟨gb678, 0, none⟩ (.int .i64 t675)).setCell ⟨gb678, 1, none⟩ (.int .i64 t676)).setCell ⟨gb678, 2, none⟩ (.bool t677)).heap[gb669]? = some (.cells #[.int .i64 t660, .int .i64 t661, .bool t662] 25 (0, 0))) := ⟨by (with_reducible repeat (first | refine blk_drewN ?_ _ | refine blk_drew ?_ | refine blk_alloc ?_ _)); refine blk_far ?_ NB669_678.out _; (with_reducible repeat (first | refine blk_drewN ?_ _ | refine blk_drew ?_ | refine blk_alloc ?_ _)); refine blk_far ?_ NB669_678.out _; (with_reducible repeat (first | refine blk_drewN ?_ _ | refine blk_drew ?_ | refine blk_alloc ?_ _)); refine blk_far ?_ NB669_678.out _; (with_reducible repeat (first | refine blk_drewN ?_ _ | refine blk_drew ?_ | refine blk_alloc ?_ _)); exact BK669.out⟩
                    have n1_ : Aside0 ((((w44.setCell ⟨gb678, 0, none⟩ (.int .i64 t675)).setCell ⟨gb678, 1, none⟩ (.int .i64 t676)).setCell ⟨gb678, 2, none⟩ (.bool t677)).heap[gb670]? = some (.cells #[.int .i64 t663, .int .i64 t664, .bool t665] 25 (0, 0))) := ⟨by (with_reducible repeat (first | refine blk_drewN ?_ _ | refine blk_drew ?_ | refine blk_alloc ?_ _)); refine blk_far ?_ NB670_678.out _; (with_reducible repeat (first | refine blk_drewN ?_ _ | refine blk_drew ?_ | refine blk_alloc ?_ _)); refine blk_far ?_ NB670_678.out _; (with_reducible repeat (first | refine blk_drewN ?_ _ | refine blk_drew ?_ | refine blk_alloc ?_ _)); refine blk_far ?_ NB670_678.out _; (with_reducible repeat (first | refine blk_drewN ?_ _ | refine blk_drew ?_ | refine blk_alloc ?_ _)); exact BK670.out⟩
                    have n2_ : Aside0 ((((w44.setCell ⟨gb678, 0, none⟩ (.int .i64 t675)).setCell ⟨gb678, 1, none⟩ (.int .i64 t676)).setCell ⟨gb678, 2, none⟩ (.bool t677)).heap[gb671]? = some (.cells #[.int .i64 t666, .int .i64 t667, .bool t668] 25 (0, 0))) := ⟨by (with_reducible repeat (first | refine blk_drewN ?_ _ | refine blk_drew ?_ | refine blk_alloc ?_ _)); refine blk_far ?_ NB671_678.out _; (with_reducible repeat (first | refine blk_drewN ?_ _ | refine blk_drew ?_ | refine blk_alloc ?_ _)); refine blk_far ?_ NB671_678.out _; (with_reducible repeat (first | refine blk_drewN ?_ _ | refine blk_drew ?_ | refine blk_alloc ?_ _)); refine blk_far ?_ NB671_678.out _; (with_reducible repeat (first | refine blk_drewN ?_ _ | refine blk_drew ?_ | refine blk_alloc ?_ _)); exact BK671.out⟩
                    have n3_ : Aside0 ((((w44.setCell ⟨gb678, 0, none⟩ (.int .i64 t675)).setCell ⟨gb678, 1, none⟩ (.int .i64 t676)).setCell ⟨gb678, 2, none⟩ (.bool t677)).heap[gb678]? = some (.cells #[.int .i64 t675, .int .i64 t676, .bool t677] 25 (0, 0))) := ⟨by (with_reducible repeat (first | refine blk_drewN ?_ _ | refine blk_drew ?_ | refine blk_alloc ?_ _)); refine blk_put (cs := #[.int .i64 t675, .int .i64 t676, .bool false]) ?_ 2 _ rfl; (with_reducible repeat (first | refine blk_drewN ?_ _ | refine blk_drew ?_ | refine blk_alloc ?_ _)); refine blk_put (cs := #[.int .i64 t675, .int .i64 0, .bool false]) ?_ 1 _ rfl; (with_reducible repeat (first | refine blk_drewN ?_ _ | refine blk_drew ?_ | refine blk_alloc ?_ _)); refine blk_put (cs := #[.int .i64 0, .int .i64 0, .bool false]) ?_ 0 _ rfl; (with_reducible repeat (first | refine blk_drewN ?_ _ | refine blk_drew ?_ | refine blk_alloc ?_ _)); exact BK678.out⟩
                    have n4_ : Aside0 (Below w.heap.size w (((w44.setCell ⟨gb678, 0, none⟩ (.int .i64 t675)).setCell ⟨gb678, 1, none⟩ (.int .i64 t676)).setCell ⟨gb678, 2, none⟩ (.bool t677))) := ⟨by repeat (first | (with_reducible first | exact HB.out | apply below_alloc | apply pw_below_drewN | apply below_drew1 | refine below_set ?_ GE669.out | refine below_set ?_ GE670.out | refine below_set ?_ GE671.out | refine below_set ?_ GE678.out) | exact HB.out)⟩
                    (try clear BK669)
                    (try clear BK670)
                    (try clear BK671)
                    (try clear BK678)
                    (try clear HB)
                    generalize (((w44.setCell ⟨gb678, 0, none⟩ (.int .i64 t675)).setCell ⟨gb678, 1, none⟩ (.int .i64 t676)).setCell ⟨gb678, 2, none⟩ (.bool t677)) = w48 at n0_ n1_ n2_ n3_ n4_ ⊢
                    have BK669 := n0_
                    have BK670 := n1_
                    have BK671 := n2_
                    have BK678 := n3_
                    have HB := n4_
                    clear n0_ n1_ n2_ n3_ n4_
                    have n0_ := Aside0.mk (blk_drew BK669.out)
                    have n1_ := Aside0.mk (blk_drew BK670.out)
                    have n2_ := Aside0.mk (blk_drew BK671.out)
                    have n3_ := Aside0.mk (blk_drew BK678.out)
                    have n4_ := Aside0.mk (below_drew1 HB.out)
                    clear BK669
                    clear BK670
                    clear BK671
                    clear BK678
                    clear HB
                    have BK669 := n0_
                    have BK670 := n1_
                    have BK671 := n2_
                    have BK678 := n3_
                    have HB := n4_
                    clear n0_ n1_ n2_ n3_ n4_
                    refine start_ (n := 7) (S := fun w' => w'.cell? ⟨gb669, 0, none⟩ = some (.int .i64 t660) ∧ w'.cell? ⟨gb669, 1, none⟩ = some (.int .i64 t661) ∧ w'.cell? ⟨gb669, 2, none⟩ = some (.bool t662) ∧ w'.cell? ⟨gb670, 0, none⟩ = some (.int .i64 t663) ∧ w'.cell? ⟨gb670, 1, none⟩ = some (.int .i64 t664) ∧ w'.cell? ⟨gb670, 2, none⟩ = some (.bool t665) ∧ w'.cell? ⟨gb671, 0, none⟩ = some (.int .i64 t666) ∧ w'.cell? ⟨gb671, 1, none⟩ = some (.int .i64 t667) ∧ w'.cell? ⟨gb671, 2, none⟩ = some (.bool t668)) (ds := []) #[false, false, false, false, false, false, false] (by kernel_rfl) rfl rfl ⟨(blk_cell BK669.out 0).trans rfl, (blk_cell BK669.out 1).trans rfl, (blk_cell BK669.out 2).trans rfl, (blk_cell BK670.out 0).trans rfl, (blk_cell BK670.out 1).trans rfl, (blk_cell BK670.out 2).trans rfl, (blk_cell BK671.out 0).trans rfl, (blk_cell BK671.out 1).trans rfl, (blk_cell BK671.out 2).trans rfl⟩ (fun hHeld => ?_)
                    generalize w48.drew = w49 at BK669 BK670 BK671 BK678 HB hHeld ⊢
                    refine take_ (i := 0) (N := some 25) (v := ?_) (a' := ?_) #[true, false, false, false, false, false, false] rfl rfl (by kernel_rfl) (fun _ _ _ h => h) (Or.inl ⟨by rfl, ?_⟩) hHeld ?_ ?_
                    rotate_left
                    · rintro w' ⟨s0, s1, s2, s3, s4, s5, s6, s7, s8⟩
                      go_simp
                      with_reducible rfl
                    rotate_left
                    · simp only [Act.put, List.setIfInBounds_toArray, List.set_cons_zero, List.set_cons_succ, i64_w, i32_w]
                      rfl
                    refine take_ (i := 1) (N := some 26) (v := ?_) (a' := ?_) #[true, true, false, false, false, false, false] rfl rfl (by kernel_rfl) (fun _ _ _ h => h) (Or.inl ⟨by rfl, ?_⟩) hHeld ?_ ?_
                    rotate_left
                    · rintro w' ⟨s0, s1, s2, s3, s4, s5, s6, s7, s8⟩
                      go_simp
                      with_reducible rfl
                    rotate_left
                    · simp only [Act.put, List.setIfInBounds_toArray, List.set_cons_zero, List.set_cons_succ, i64_w, i32_w]
                      rfl
                    refine take_ (i := 2) (N := some 27) (v := ?_) (a' := ?_) #[true, true, true, false, false, false, false] rfl rfl (by kernel_rfl) (fun _ _ _ h => h) (Or.inl ⟨by rfl, ?_⟩) hHeld ?_ ?_
                    rotate_left
                    · rintro w' ⟨s0, s1, s2, s3, s4, s5, s6, s7, s8⟩
                      go_simp
                      with_reducible rfl
                    rotate_left
                    · simp only [Act.put, List.setIfInBounds_toArray, List.set_cons_zero, List.set_cons_succ, i64_w, i32_w]
                      rfl
                    refine join_ (σ := Nat) 1 #[true, true, true, true, true, true, false] (fun s_ => [(28, .agg #[.int .i64 t679, .int .i64 t680, .bool t681]), (29, .agg #[.int .i64 t682, .int .i64 t683, .bool t684]), (7, .pointer (some ⟨s_, 0, none⟩))]) (fun s_ w' => (w'.cell? ⟨gb669, 0, none⟩ = some (.int .i64 t660) ∧ w'.cell? ⟨gb669, 1, none⟩ = some (.int .i64 t661) ∧ w'.cell? ⟨gb669, 2, none⟩ = some (.bool t662) ∧ w'.cell? ⟨gb670, 0, none⟩ = some (.int .i64 t663) ∧ w'.cell? ⟨gb670, 1, none⟩ = some (.int .i64 t664) ∧ w'.cell? ⟨gb670, 2, none⟩ = some (.bool t665) ∧ w'.cell? ⟨gb671, 0, none⟩ = some (.int .i64 t666) ∧ w'.cell? ⟨gb671, 1, none⟩ = some (.int .i64 t667) ∧ w'.cell? ⟨gb671, 2, none⟩ = some (.bool t668)) ∧ (w'.heap[gb669]? = some (.cells #[.int .i64 t660, .int .i64 t661, .bool t662] 25 (0, 0))) ∧ (w'.heap[gb670]? = some (.cells #[.int .i64 t663, .int .i64 t664, .bool t665] 25 (0, 0))) ∧ (w'.heap[gb671]? = some (.cells #[.int .i64 t666, .int .i64 t667, .bool t668] 25 (0, 0))) ∧ (w'.heap[gb678]? = some (.cells #[.int .i64 t675, .int .i64 t676, .bool t677] 25 (0, 0))) ∧ (w'.heap[s_]? = some (.cells #[.int .i64 0, .int .i64 0, .bool false] 25 (0, 0))) ∧ (w.heap.size ≤ s_) ∧ (w.heap.size ≤ s_) ∧ (gb669 ≠ s_) ∧ (s_ ≠ gb669) ∧ (gb670 ≠ s_) ∧ (s_ ≠ gb670) ∧ (gb671 ≠ s_) ∧ (s_ ≠ gb671) ∧ (gb678 ≠ s_) ∧ (s_ ≠ gb678) ∧ (Below w.heap.size w w')) ?_ ?_
                    rotate_left
                    · intro hCont
                      refine two_ (i := 3) (j := 5) (Ni := some 28) (Nj := some 7) #[true, true, true, true, false, false, false] #[true, true, true, false, false, true, false] rfl rfl rfl rfl (by kernel_rfl) (by decide) (by decide) (fun K hK => ?_) (fun K hK => ?_)
                      · skip
                        refine goes_ Try.func19 (by kernel_rfl) rfl #[.agg #[.int .i64 t663, .int .i64 t664, .bool t665], .agg #[.int .i64 t666, .int .i64 t667, .bool t668]] (by rfl) rfl rfl (by (try simp only [List.map_toArray, List.map_cons, List.map_nil]); first | done | rfl | (simp only [List.length_drop, List.length_take]; rfl)) ?_
                        with_reducible refine (impl_PointAdd.calls k t663 t664 t665 t666 t667 t668 t679 t680 t681 _ A7.out).mono ?_
                        rintro e w50 ⟨rfl, hb⟩
                        refine ⟨_, rfl, ?_⟩
                        have n0_ := Aside0.mk (blk_below (g := gb669) (o := .cells #[.int .i64 t660, .int .i64 t661, .bool t662] 25 (0, 0)) (by (with_reducible repeat (first | refine blk_drewN ?_ _ | refine blk_drew ?_ | refine blk_alloc ?_ _)); exact BK669.out) hb)
                        have n1_ := Aside0.mk (blk_below (g := gb670) (o := .cells #[.int .i64 t663, .int .i64 t664, .bool t665] 25 (0, 0)) (by (with_reducible repeat (first | refine blk_drewN ?_ _ | refine blk_drew ?_ | refine blk_alloc ?_ _)); exact BK670.out) hb)
                        have n2_ := Aside0.mk (blk_below (g := gb671) (o := .cells #[.int .i64 t666, .int .i64 t667, .bool t668] 25 (0, 0)) (by (with_reducible repeat (first | refine blk_drewN ?_ _ | refine blk_drew ?_ | refine blk_alloc ?_ _)); exact BK671.out) hb)
                        have n3_ := Aside0.mk (blk_below (g := gb678) (o := .cells #[.int .i64 t675, .int .i64 t676, .bool t677] 25 (0, 0)) (by (with_reducible repeat (first | refine blk_drewN ?_ _ | refine blk_drew ?_ | refine blk_alloc ?_ _)); exact BK678.out) hb)
                        have n4_ := Aside0.mk (below_step (by repeat (first | (with_reducible first | exact HB.out | apply below_alloc | apply pw_below_drewN | apply below_drew1 | refine below_set ?_ GE669.out | refine below_set ?_ GE670.out | refine below_set ?_ GE671.out | refine below_set ?_ GE678.out) | exact HB.out)) hb)
                        clear BK669
                        clear BK670
                        clear BK671
                        clear BK678
                        clear HB
                        have BK669 := n0_
                        have BK670 := n1_
                        have BK671 := n2_
                        have BK678 := n3_
                        have HB := n4_
                        clear n0_ n1_ n2_ n3_ n4_
                        (try clear hb)
                        (try clear hb2)
                        (try clear hk)
                        (try clear hi)
                        refine hK.out _ _ ⟨(blk_cell BK669.out 0).trans rfl, (blk_cell BK669.out 1).trans rfl, (blk_cell BK669.out 2).trans rfl, (blk_cell BK670.out 0).trans rfl, (blk_cell BK670.out 1).trans rfl, (blk_cell BK670.out 2).trans rfl, (blk_cell BK671.out 0).trans rfl, (blk_cell BK671.out 1).trans rfl, (blk_cell BK671.out 2).trans rfl⟩ (fun hHeld => ?_)
                        clear hK K
                        refine norm_ (a' := ?_) ?_ ?_
                        rotate_left
                        · show Act.put _ (some 28) _ = _
                          simp only [Act.put, List.setIfInBounds_toArray, List.set_cons_zero, List.set_cons_succ, i64_w, i32_w]
                          rfl
                        refine two_ (i := 4) (j := 5) (Ni := some 29) (Nj := some 7) #[true, true, true, true, true, false, false] #[true, true, true, true, false, true, false] rfl rfl rfl rfl (by kernel_rfl) (by decide) (by decide) (fun K hK => ?_) (fun K hK => ?_)
                        · skip
                          refine goes_ Try.func19 (by kernel_rfl) rfl #[.agg #[.int .i64 t660, .int .i64 t661, .bool t662], .agg #[.int .i64 t679, .int .i64 t680, .bool t681]] (by rfl) rfl rfl (by (try simp only [List.map_toArray, List.map_cons, List.map_nil]); first | done | rfl | (simp only [List.length_drop, List.length_take]; rfl)) ?_
                          with_reducible refine (impl_PointAdd.calls k t660 t661 t662 t679 t680 t681 t682 t683 t684 _ A8.out).mono ?_
                          rintro e w51 ⟨rfl, hb⟩
                          refine ⟨_, rfl, ?_⟩
                          have n0_ := Aside0.mk (blk_below (g := gb669) (o := .cells #[.int .i64 t660, .int .i64 t661, .bool t662] 25 (0, 0)) (by (with_reducible repeat (first | refine blk_drewN ?_ _ | refine blk_drew ?_ | refine blk_alloc ?_ _)); exact BK669.out) hb)
                          have n1_ := Aside0.mk (blk_below (g := gb670) (o := .cells #[.int .i64 t663, .int .i64 t664, .bool t665] 25 (0, 0)) (by (with_reducible repeat (first | refine blk_drewN ?_ _ | refine blk_drew ?_ | refine blk_alloc ?_ _)); exact BK670.out) hb)
                          have n2_ := Aside0.mk (blk_below (g := gb671) (o := .cells #[.int .i64 t666, .int .i64 t667, .bool t668] 25 (0, 0)) (by (with_reducible repeat (first | refine blk_drewN ?_ _ | refine blk_drew ?_ | refine blk_alloc ?_ _)); exact BK671.out) hb)
                          have n3_ := Aside0.mk (blk_below (g := gb678) (o := .cells #[.int .i64 t675, .int .i64 t676, .bool t677] 25 (0, 0)) (by (with_reducible repeat (first | refine blk_drewN ?_ _ | refine blk_drew ?_ | refine blk_alloc ?_ _)); exact BK678.out) hb)
                          have n4_ := Aside0.mk (below_step (by repeat (first | (with_reducible first | exact HB.out | apply below_alloc | apply pw_below_drewN | apply below_drew1 | refine below_set ?_ GE669.out | refine below_set ?_ GE670.out | refine below_set ?_ GE671.out | refine below_set ?_ GE678.out) | exact HB.out)) hb)
                          clear BK669
                          clear BK670
                          clear BK671
                          clear BK678
                          clear HB
                          have BK669 := n0_
                          have BK670 := n1_
                          have BK671 := n2_
                          have BK678 := n3_
                          have HB := n4_
                          clear n0_ n1_ n2_ n3_ n4_
                          (try clear hb)
                          (try clear hb2)
                          (try clear hk)
                          (try clear hi)
                          refine hK.out _ _ ⟨(blk_cell BK669.out 0).trans rfl, (blk_cell BK669.out 1).trans rfl, (blk_cell BK669.out 2).trans rfl, (blk_cell BK670.out 0).trans rfl, (blk_cell BK670.out 1).trans rfl, (blk_cell BK670.out 2).trans rfl, (blk_cell BK671.out 0).trans rfl, (blk_cell BK671.out 1).trans rfl, (blk_cell BK671.out 2).trans rfl⟩ (fun hHeld => ?_)
                          clear hK K
                          refine norm_ (a' := ?_) ?_ ?_
                          rotate_left
                          · show Act.put _ (some 29) _ = _
                            simp only [Act.put, List.setIfInBounds_toArray, List.set_cons_zero, List.set_cons_succ, i64_w, i32_w]
                            rfl
                          refine one_ (i := 5) (N := some 7) #[true, true, true, true, true, true, false] rfl rfl (by kernel_rfl) (by decide) (fun K hK => ?_)
                          refine box_step ?hg (N := 7) ?hd (cs := #[.int .i64 0, .int .i64 0, .bool false]) (t := 25) ?hr ?_; (case hd => rfl); (case hg => rfl); (case hr => first | (go_simp; done) | (go_simp; rfl))
                          intro gb685 hg w52 hbox hb
                          have n0_ := Aside0.mk (blk_below (g := gb669) (o := .cells #[.int .i64 t660, .int .i64 t661, .bool t662] 25 (0, 0)) (by (with_reducible repeat (first | refine blk_drewN ?_ _ | refine blk_drew ?_ | refine blk_alloc ?_ _)); exact BK669.out) hb)
                          have n1_ := Aside0.mk (blk_below (g := gb670) (o := .cells #[.int .i64 t663, .int .i64 t664, .bool t665] 25 (0, 0)) (by (with_reducible repeat (first | refine blk_drewN ?_ _ | refine blk_drew ?_ | refine blk_alloc ?_ _)); exact BK670.out) hb)
                          have n2_ := Aside0.mk (blk_below (g := gb671) (o := .cells #[.int .i64 t666, .int .i64 t667, .bool t668] 25 (0, 0)) (by (with_reducible repeat (first | refine blk_drewN ?_ _ | refine blk_drew ?_ | refine blk_alloc ?_ _)); exact BK671.out) hb)
                          have n3_ := Aside0.mk (blk_below (g := gb678) (o := .cells #[.int .i64 t675, .int .i64 t676, .bool t677] 25 (0, 0)) (by (with_reducible repeat (first | refine blk_drewN ?_ _ | refine blk_drew ?_ | refine blk_alloc ?_ _)); exact BK678.out) hb)
                          have n4_ := Aside0.mk (below_step (by repeat (first | (with_reducible first | exact HB.out | apply below_alloc | apply pw_below_drewN | apply below_drew1 | refine below_set ?_ GE669.out | refine below_set ?_ GE670.out | refine below_set ?_ GE671.out | refine below_set ?_ GE678.out) | exact HB.out)) hb)
                          have n5_ := Aside0.mk (hbox)
                          have n6_ := Aside0.mk ((by rw [hg]; exact (below_size (by repeat (first | (with_reducible first | exact HB.out | apply below_alloc | apply pw_below_drewN | apply below_drew1 | refine below_set ?_ GE669.out | refine below_set ?_ GE670.out | refine below_set ?_ GE671.out | refine below_set ?_ GE678.out) | exact HB.out))) : w.heap.size ≤ gb685))
                          have n7_ := Aside0.mk ((by rw [hg]; exact (below_size (by repeat (first | (with_reducible first | exact HB.out | apply below_alloc | apply pw_below_drewN | apply below_drew1 | refine below_set ?_ GE669.out | refine below_set ?_ GE670.out | refine below_set ?_ GE671.out | refine below_set ?_ GE678.out) | exact HB.out))) : w.heap.size ≤ gb685))
                          have n8_ := Aside0.mk ((by rw [hg]; exact Nat.ne_of_lt (blk_lt (g := gb669) (o := .cells #[.int .i64 t660, .int .i64 t661, .bool t662] 25 (0, 0)) (by (with_reducible repeat (first | refine blk_drewN ?_ _ | refine blk_drew ?_ | refine blk_alloc ?_ _)); exact BK669.out)) : gb669 ≠ gb685))
                          have n9_ := Aside0.mk ((by rw [hg]; exact Nat.ne_of_gt (blk_lt (g := gb669) (o := .cells #[.int .i64 t660, .int .i64 t661, .bool t662] 25 (0, 0)) (by (with_reducible repeat (first | refine blk_drewN ?_ _ | refine blk_drew ?_ | refine blk_alloc ?_ _)); exact BK669.out)) : gb685 ≠ gb669))
                          have n10_ := Aside0.mk ((by rw [hg]; exact Nat.ne_of_lt (blk_lt (g := gb670) (o := .cells #[.int .i64 t663, .int .i64 t664, .bool t665] 25 (0, 0)) (by (with_reducible repeat (first | refine blk_drewN ?_ _ | refine blk_drew ?_ | refine blk_alloc ?_ _)); exact BK670.out)) : gb670 ≠ gb685))
                          have n11_ := Aside0.mk ((by rw [hg]; exact Nat.ne_of_gt (blk_lt (g := gb670) (o := .cells #[.int .i64 t663, .int .i64 t664, .bool t665] 25 (0, 0)) (by (with_reducible repeat (first | refine blk_drewN ?_ _ | refine blk_drew ?_ | refine blk_alloc ?_ _)); exact BK670.out)) : gb685 ≠ gb670))
                          have n12_ := Aside0.mk ((by rw [hg]; exact Nat.ne_of_lt (blk_lt (g := gb671) (o := .cells #[.int .i64 t666, .int .i64 t667, .bool t668] 25 (0, 0)) (by (with_reducible repeat (first | refine blk_drewN ?_ _ | refine blk_drew ?_ | refine blk_alloc ?_ _)); exact BK671.out)) : gb671 ≠ gb685))
                          have n13_ := Aside0.mk ((by rw [hg]; exact Nat.ne_of_gt (blk_lt (g := gb671) (o := .cells #[.int .i64 t666, .int .i64 t667, .bool t668] 25 (0, 0)) (by (with_reducible repeat (first | refine blk_drewN ?_ _ | refine blk_drew ?_ | refine blk_alloc ?_ _)); exact BK671.out)) : gb685 ≠ gb671))
                          have n14_ := Aside0.mk ((by rw [hg]; exact Nat.ne_of_lt (blk_lt (g := gb678) (o := .cells #[.int .i64 t675, .int .i64 t676, .bool t677] 25 (0, 0)) (by (with_reducible repeat (first | refine blk_drewN ?_ _ | refine blk_drew ?_ | refine blk_alloc ?_ _)); exact BK678.out)) : gb678 ≠ gb685))
                          have n15_ := Aside0.mk ((by rw [hg]; exact Nat.ne_of_gt (blk_lt (g := gb678) (o := .cells #[.int .i64 t675, .int .i64 t676, .bool t677] 25 (0, 0)) (by (with_reducible repeat (first | refine blk_drewN ?_ _ | refine blk_drew ?_ | refine blk_alloc ?_ _)); exact BK678.out)) : gb685 ≠ gb678))
                          clear BK669
                          clear BK670
                          clear BK671
                          clear BK678
                          clear HB
                          have BK669 := n0_
                          have BK670 := n1_
                          have BK671 := n2_
                          have BK678 := n3_
                          have HB := n4_
                          have BK685 := n5_
                          have GW685 := n6_
                          have GE685 := n7_
                          have NB669_685 := n8_
                          have NB685_669 := n9_
                          have NB670_685 := n10_
                          have NB685_670 := n11_
                          have NB671_685 := n12_
                          have NB685_671 := n13_
                          have NB678_685 := n14_
                          have NB685_678 := n15_
                          clear n0_ n1_ n2_ n3_ n4_ n5_ n6_ n7_ n8_ n9_ n10_ n11_ n12_ n13_ n14_ n15_
                          clear hb hbox hg
                          refine hK.out _ _ ⟨(blk_cell BK669.out 0).trans rfl, (blk_cell BK669.out 1).trans rfl, (blk_cell BK669.out 2).trans rfl, (blk_cell BK670.out 0).trans rfl, (blk_cell BK670.out 1).trans rfl, (blk_cell BK670.out 2).trans rfl, (blk_cell BK671.out 0).trans rfl, (blk_cell BK671.out 1).trans rfl, (blk_cell BK671.out 2).trans rfl⟩ (fun hHeld => ?_)
                          clear hK K
                          refine norm_ (a' := ?_) ?_ ?_
                          rotate_left
                          · show Act.put _ (some 7) _ = _
                            simp only [Act.put, List.setIfInBounds_toArray, List.set_cons_zero, List.set_cons_succ, i64_w, i32_w]
                            rfl
                          exact norm_ (by simp only [putAll, Act.put, List.setIfInBounds_toArray, List.set_cons_zero, List.set_cons_succ]) (hCont (gb685) _ ⟨hHeld, (by (with_reducible repeat (first | refine blk_drewN ?_ _ | refine blk_drew ?_ | refine blk_alloc ?_ _)); exact BK669.out), (by (with_reducible repeat (first | refine blk_drewN ?_ _ | refine blk_drew ?_ | refine blk_alloc ?_ _)); exact BK670.out), (by (with_reducible repeat (first | refine blk_drewN ?_ _ | refine blk_drew ?_ | refine blk_alloc ?_ _)); exact BK671.out), (by (with_reducible repeat (first | refine blk_drewN ?_ _ | refine blk_drew ?_ | refine blk_alloc ?_ _)); exact BK678.out), (by (with_reducible repeat (first | refine blk_drewN ?_ _ | refine blk_drew ?_ | refine blk_alloc ?_ _)); exact BK685.out), GW685.out, GE685.out, NB669_685.out, NB685_669.out, NB670_685.out, NB685_670.out, NB671_685.out, NB685_671.out, NB678_685.out, NB685_678.out, (by repeat (first | (with_reducible first | exact HB.out | apply below_alloc | apply pw_below_drewN | apply below_drew1 | refine below_set ?_ GE669.out | refine below_set ?_ GE670.out | refine below_set ?_ GE671.out | refine below_set ?_ GE678.out | refine below_set ?_ GE685.out) | exact HB.out))⟩)
                        · skip
                          refine box_step ?hg (N := 7) ?hd (cs := #[.int .i64 0, .int .i64 0, .bool false]) (t := 25) ?hr ?_; (case hd => rfl); (case hg => rfl); (case hr => first | (go_simp; done) | (go_simp; rfl))
                          intro gb685 hg w51 hbox hb
                          have n0_ := Aside0.mk (blk_below (g := gb669) (o := .cells #[.int .i64 t660, .int .i64 t661, .bool t662] 25 (0, 0)) (by (with_reducible repeat (first | refine blk_drewN ?_ _ | refine blk_drew ?_ | refine blk_alloc ?_ _)); exact BK669.out) hb)
                          have n1_ := Aside0.mk (blk_below (g := gb670) (o := .cells #[.int .i64 t663, .int .i64 t664, .bool t665] 25 (0, 0)) (by (with_reducible repeat (first | refine blk_drewN ?_ _ | refine blk_drew ?_ | refine blk_alloc ?_ _)); exact BK670.out) hb)
                          have n2_ := Aside0.mk (blk_below (g := gb671) (o := .cells #[.int .i64 t666, .int .i64 t667, .bool t668] 25 (0, 0)) (by (with_reducible repeat (first | refine blk_drewN ?_ _ | refine blk_drew ?_ | refine blk_alloc ?_ _)); exact BK671.out) hb)
                          have n3_ := Aside0.mk (blk_below (g := gb678) (o := .cells #[.int .i64 t675, .int .i64 t676, .bool t677] 25 (0, 0)) (by (with_reducible repeat (first | refine blk_drewN ?_ _ | refine blk_drew ?_ | refine blk_alloc ?_ _)); exact BK678.out) hb)
                          have n4_ := Aside0.mk (below_step (by repeat (first | (with_reducible first | exact HB.out | apply below_alloc | apply pw_below_drewN | apply below_drew1 | refine below_set ?_ GE669.out | refine below_set ?_ GE670.out | refine below_set ?_ GE671.out | refine below_set ?_ GE678.out) | exact HB.out)) hb)
                          have n5_ := Aside0.mk (hbox)
                          have n6_ := Aside0.mk ((by rw [hg]; exact (below_size (by repeat (first | (with_reducible first | exact HB.out | apply below_alloc | apply pw_below_drewN | apply below_drew1 | refine below_set ?_ GE669.out | refine below_set ?_ GE670.out | refine below_set ?_ GE671.out | refine below_set ?_ GE678.out) | exact HB.out))) : w.heap.size ≤ gb685))
                          have n7_ := Aside0.mk ((by rw [hg]; exact (below_size (by repeat (first | (with_reducible first | exact HB.out | apply below_alloc | apply pw_below_drewN | apply below_drew1 | refine below_set ?_ GE669.out | refine below_set ?_ GE670.out | refine below_set ?_ GE671.out | refine below_set ?_ GE678.out) | exact HB.out))) : w.heap.size ≤ gb685))
                          have n8_ := Aside0.mk ((by rw [hg]; exact Nat.ne_of_lt (blk_lt (g := gb669) (o := .cells #[.int .i64 t660, .int .i64 t661, .bool t662] 25 (0, 0)) (by (with_reducible repeat (first | refine blk_drewN ?_ _ | refine blk_drew ?_ | refine blk_alloc ?_ _)); exact BK669.out)) : gb669 ≠ gb685))
                          have n9_ := Aside0.mk ((by rw [hg]; exact Nat.ne_of_gt (blk_lt (g := gb669) (o := .cells #[.int .i64 t660, .int .i64 t661, .bool t662] 25 (0, 0)) (by (with_reducible repeat (first | refine blk_drewN ?_ _ | refine blk_drew ?_ | refine blk_alloc ?_ _)); exact BK669.out)) : gb685 ≠ gb669))
                          have n10_ := Aside0.mk ((by rw [hg]; exact Nat.ne_of_lt (blk_lt (g := gb670) (o := .cells #[.int .i64 t663, .int .i64 t664, .bool t665] 25 (0, 0)) (by (with_reducible repeat (first | refine blk_drewN ?_ _ | refine blk_drew ?_ | refine blk_alloc ?_ _)); exact BK670.out)) : gb670 ≠ gb685))
                          have n11_ := Aside0.mk ((by rw [hg]; exact Nat.ne_of_gt (blk_lt (g := gb670) (o := .cells #[.int .i64 t663, .int .i64 t664, .bool t665] 25 (0, 0)) (by (with_reducible repeat (first | refine blk_drewN ?_ _ | refine blk_drew ?_ | refine blk_alloc ?_ _)); exact BK670.out)) : gb685 ≠ gb670))
                          have n12_ := Aside0.mk ((by rw [hg]; exact Nat.ne_of_lt (blk_lt (g := gb671) (o := .cells #[.int .i64 t666, .int .i64 t667, .bool t668] 25 (0, 0)) (by (with_reducible repeat (first | refine blk_drewN ?_ _ | refine blk_drew ?_ | refine blk_alloc ?_ _)); exact BK671.out)) : gb671 ≠ gb685))
                          have n13_ := Aside0.mk ((by rw [hg]; exact Nat.ne_of_gt (blk_lt (g := gb671) (o := .cells #[.int .i64 t666, .int .i64 t667, .bool t668] 25 (0, 0)) (by (with_reducible repeat (first | refine blk_drewN ?_ _ | refine blk_drew ?_ | refine blk_alloc ?_ _)); exact BK671.out)) : gb685 ≠ gb671))
                          have n14_ := Aside0.mk ((by rw [hg]; exact Nat.ne_of_lt (blk_lt (g := gb678) (o := .cells #[.int .i64 t675, .int .i64 t676, .bool t677] 25 (0, 0)) (by (with_reducible repeat (first | refine blk_drewN ?_ _ | refine blk_drew ?_ | refine blk_alloc ?_ _)); exact BK678.out)) : gb678 ≠ gb685))
                          have n15_ := Aside0.mk ((by rw [hg]; exact Nat.ne_of_gt (blk_lt (g := gb678) (o := .cells #[.int .i64 t675, .int .i64 t676, .bool t677] 25 (0, 0)) (by (with_reducible repeat (first | refine blk_drewN ?_ _ | refine blk_drew ?_ | refine blk_alloc ?_ _)); exact BK678.out)) : gb685 ≠ gb678))
                          clear BK669
                          clear BK670
                          clear BK671
                          clear BK678
                          clear HB
                          have BK669 := n0_
                          have BK670 := n1_
                          have BK671 := n2_
                          have BK678 := n3_
                          have HB := n4_
                          have BK685 := n5_
                          have GW685 := n6_
                          have GE685 := n7_
                          have NB669_685 := n8_
                          have NB685_669 := n9_
                          have NB670_685 := n10_
                          have NB685_670 := n11_
                          have NB671_685 := n12_
                          have NB685_671 := n13_
                          have NB678_685 := n14_
                          have NB685_678 := n15_
                          clear n0_ n1_ n2_ n3_ n4_ n5_ n6_ n7_ n8_ n9_ n10_ n11_ n12_ n13_ n14_ n15_
                          clear hb hbox hg
                          refine hK.out _ _ ⟨(blk_cell BK669.out 0).trans rfl, (blk_cell BK669.out 1).trans rfl, (blk_cell BK669.out 2).trans rfl, (blk_cell BK670.out 0).trans rfl, (blk_cell BK670.out 1).trans rfl, (blk_cell BK670.out 2).trans rfl, (blk_cell BK671.out 0).trans rfl, (blk_cell BK671.out 1).trans rfl, (blk_cell BK671.out 2).trans rfl⟩ (fun hHeld => ?_)
                          clear hK K
                          refine norm_ (a' := ?_) ?_ ?_
                          rotate_left
                          · show Act.put _ (some 7) _ = _
                            simp only [Act.put, List.setIfInBounds_toArray, List.set_cons_zero, List.set_cons_succ, i64_w, i32_w]
                            rfl
                          refine one_ (i := 4) (N := some 29) #[true, true, true, true, true, true, false] rfl rfl (by kernel_rfl) (by decide) (fun K hK => ?_)
                          refine goes_ Try.func19 (by kernel_rfl) rfl #[.agg #[.int .i64 t660, .int .i64 t661, .bool t662], .agg #[.int .i64 t679, .int .i64 t680, .bool t681]] (by rfl) rfl rfl (by (try simp only [List.map_toArray, List.map_cons, List.map_nil]); first | done | rfl | (simp only [List.length_drop, List.length_take]; rfl)) ?_
                          with_reducible refine (impl_PointAdd.calls k t660 t661 t662 t679 t680 t681 t682 t683 t684 _ A8.out).mono ?_
                          rintro e w52 ⟨rfl, hb⟩
                          refine ⟨_, rfl, ?_⟩
                          have n0_ := Aside0.mk (blk_below (g := gb669) (o := .cells #[.int .i64 t660, .int .i64 t661, .bool t662] 25 (0, 0)) (by (with_reducible repeat (first | refine blk_drewN ?_ _ | refine blk_drew ?_ | refine blk_alloc ?_ _)); exact BK669.out) hb)
                          have n1_ := Aside0.mk (blk_below (g := gb670) (o := .cells #[.int .i64 t663, .int .i64 t664, .bool t665] 25 (0, 0)) (by (with_reducible repeat (first | refine blk_drewN ?_ _ | refine blk_drew ?_ | refine blk_alloc ?_ _)); exact BK670.out) hb)
                          have n2_ := Aside0.mk (blk_below (g := gb671) (o := .cells #[.int .i64 t666, .int .i64 t667, .bool t668] 25 (0, 0)) (by (with_reducible repeat (first | refine blk_drewN ?_ _ | refine blk_drew ?_ | refine blk_alloc ?_ _)); exact BK671.out) hb)
                          have n3_ := Aside0.mk (blk_below (g := gb678) (o := .cells #[.int .i64 t675, .int .i64 t676, .bool t677] 25 (0, 0)) (by (with_reducible repeat (first | refine blk_drewN ?_ _ | refine blk_drew ?_ | refine blk_alloc ?_ _)); exact BK678.out) hb)
                          have n4_ := Aside0.mk (blk_below (g := gb685) (o := .cells #[.int .i64 0, .int .i64 0, .bool false] 25 (0, 0)) (by (with_reducible repeat (first | refine blk_drewN ?_ _ | refine blk_drew ?_ | refine blk_alloc ?_ _)); exact BK685.out) hb)
                          have n5_ := Aside0.mk (below_step (by repeat (first | (with_reducible first | exact HB.out | apply below_alloc | apply pw_below_drewN | apply below_drew1 | refine below_set ?_ GE669.out | refine below_set ?_ GE670.out | refine below_set ?_ GE671.out | refine below_set ?_ GE678.out | refine below_set ?_ GE685.out) | exact HB.out)) hb)
                          clear BK669
                          clear BK670
                          clear BK671
                          clear BK678
                          clear BK685
                          clear HB
                          have BK669 := n0_
                          have BK670 := n1_
                          have BK671 := n2_
                          have BK678 := n3_
                          have BK685 := n4_
                          have HB := n5_
                          clear n0_ n1_ n2_ n3_ n4_ n5_
                          (try clear hb)
                          (try clear hb2)
                          (try clear hk)
                          (try clear hi)
                          refine hK.out _ _ ⟨(blk_cell BK669.out 0).trans rfl, (blk_cell BK669.out 1).trans rfl, (blk_cell BK669.out 2).trans rfl, (blk_cell BK670.out 0).trans rfl, (blk_cell BK670.out 1).trans rfl, (blk_cell BK670.out 2).trans rfl, (blk_cell BK671.out 0).trans rfl, (blk_cell BK671.out 1).trans rfl, (blk_cell BK671.out 2).trans rfl⟩ (fun hHeld => ?_)
                          clear hK K
                          refine norm_ (a' := ?_) ?_ ?_
                          rotate_left
                          · show Act.put _ (some 29) _ = _
                            simp only [Act.put, List.setIfInBounds_toArray, List.set_cons_zero, List.set_cons_succ, i64_w, i32_w]
                            rfl
                          exact norm_ (by simp only [putAll, Act.put, List.setIfInBounds_toArray, List.set_cons_zero, List.set_cons_succ]) (hCont (gb685) _ ⟨hHeld, (by (with_reducible repeat (first | refine blk_drewN ?_ _ | refine blk_drew ?_ | refine blk_alloc ?_ _)); exact BK669.out), (by (with_reducible repeat (first | refine blk_drewN ?_ _ | refine blk_drew ?_ | refine blk_alloc ?_ _)); exact BK670.out), (by (with_reducible repeat (first | refine blk_drewN ?_ _ | refine blk_drew ?_ | refine blk_alloc ?_ _)); exact BK671.out), (by (with_reducible repeat (first | refine blk_drewN ?_ _ | refine blk_drew ?_ | refine blk_alloc ?_ _)); exact BK678.out), (by (with_reducible repeat (first | refine blk_drewN ?_ _ | refine blk_drew ?_ | refine blk_alloc ?_ _)); exact BK685.out), GW685.out, GE685.out, NB669_685.out, NB685_669.out, NB670_685.out, NB685_670.out, NB671_685.out, NB685_671.out, NB678_685.out, NB685_678.out, (by repeat (first | (with_reducible first | exact HB.out | apply below_alloc | apply pw_below_drewN | apply below_drew1 | refine below_set ?_ GE669.out | refine below_set ?_ GE670.out | refine below_set ?_ GE671.out | refine below_set ?_ GE678.out | refine below_set ?_ GE685.out) | exact HB.out))⟩)
                      · skip
                        refine box_step ?hg (N := 7) ?hd (cs := #[.int .i64 0, .int .i64 0, .bool false]) (t := 25) ?hr ?_; (case hd => rfl); (case hg => rfl); (case hr => first | (go_simp; done) | (go_simp; rfl))
                        intro gb685 hg w50 hbox hb
                        have n0_ := Aside0.mk (blk_below (g := gb669) (o := .cells #[.int .i64 t660, .int .i64 t661, .bool t662] 25 (0, 0)) (by (with_reducible repeat (first | refine blk_drewN ?_ _ | refine blk_drew ?_ | refine blk_alloc ?_ _)); exact BK669.out) hb)
                        have n1_ := Aside0.mk (blk_below (g := gb670) (o := .cells #[.int .i64 t663, .int .i64 t664, .bool t665] 25 (0, 0)) (by (with_reducible repeat (first | refine blk_drewN ?_ _ | refine blk_drew ?_ | refine blk_alloc ?_ _)); exact BK670.out) hb)
                        have n2_ := Aside0.mk (blk_below (g := gb671) (o := .cells #[.int .i64 t666, .int .i64 t667, .bool t668] 25 (0, 0)) (by (with_reducible repeat (first | refine blk_drewN ?_ _ | refine blk_drew ?_ | refine blk_alloc ?_ _)); exact BK671.out) hb)
                        have n3_ := Aside0.mk (blk_below (g := gb678) (o := .cells #[.int .i64 t675, .int .i64 t676, .bool t677] 25 (0, 0)) (by (with_reducible repeat (first | refine blk_drewN ?_ _ | refine blk_drew ?_ | refine blk_alloc ?_ _)); exact BK678.out) hb)
                        have n4_ := Aside0.mk (below_step (by repeat (first | (with_reducible first | exact HB.out | apply below_alloc | apply pw_below_drewN | apply below_drew1 | refine below_set ?_ GE669.out | refine below_set ?_ GE670.out | refine below_set ?_ GE671.out | refine below_set ?_ GE678.out) | exact HB.out)) hb)
                        have n5_ := Aside0.mk (hbox)
                        have n6_ := Aside0.mk ((by rw [hg]; exact (below_size (by repeat (first | (with_reducible first | exact HB.out | apply below_alloc | apply pw_below_drewN | apply below_drew1 | refine below_set ?_ GE669.out | refine below_set ?_ GE670.out | refine below_set ?_ GE671.out | refine below_set ?_ GE678.out) | exact HB.out))) : w.heap.size ≤ gb685))
                        have n7_ := Aside0.mk ((by rw [hg]; exact (below_size (by repeat (first | (with_reducible first | exact HB.out | apply below_alloc | apply pw_below_drewN | apply below_drew1 | refine below_set ?_ GE669.out | refine below_set ?_ GE670.out | refine below_set ?_ GE671.out | refine below_set ?_ GE678.out) | exact HB.out))) : w.heap.size ≤ gb685))
                        have n8_ := Aside0.mk ((by rw [hg]; exact Nat.ne_of_lt (blk_lt (g := gb669) (o := .cells #[.int .i64 t660, .int .i64 t661, .bool t662] 25 (0, 0)) (by (with_reducible repeat (first | refine blk_drewN ?_ _ | refine blk_drew ?_ | refine blk_alloc ?_ _)); exact BK669.out)) : gb669 ≠ gb685))
                        have n9_ := Aside0.mk ((by rw [hg]; exact Nat.ne_of_gt (blk_lt (g := gb669) (o := .cells #[.int .i64 t660, .int .i64 t661, .bool t662] 25 (0, 0)) (by (with_reducible repeat (first | refine blk_drewN ?_ _ | refine blk_drew ?_ | refine blk_alloc ?_ _)); exact BK669.out)) : gb685 ≠ gb669))
                        have n10_ := Aside0.mk ((by rw [hg]; exact Nat.ne_of_lt (blk_lt (g := gb670) (o := .cells #[.int .i64 t663, .int .i64 t664, .bool t665] 25 (0, 0)) (by (with_reducible repeat (first | refine blk_drewN ?_ _ | refine blk_drew ?_ | refine blk_alloc ?_ _)); exact BK670.out)) : gb670 ≠ gb685))
                        have n11_ := Aside0.mk ((by rw [hg]; exact Nat.ne_of_gt (blk_lt (g := gb670) (o := .cells #[.int .i64 t663, .int .i64 t664, .bool t665] 25 (0, 0)) (by (with_reducible repeat (first | refine blk_drewN ?_ _ | refine blk_drew ?_ | refine blk_alloc ?_ _)); exact BK670.out)) : gb685 ≠ gb670))
                        have n12_ := Aside0.mk ((by rw [hg]; exact Nat.ne_of_lt (blk_lt (g := gb671) (o := .cells #[.int .i64 t666, .int .i64 t667, .bool t668] 25 (0, 0)) (by (with_reducible repeat (first | refine blk_drewN ?_ _ | refine blk_drew ?_ | refine blk_alloc ?_ _)); exact BK671.out)) : gb671 ≠ gb685))
                        have n13_ := Aside0.mk ((by rw [hg]; exact Nat.ne_of_gt (blk_lt (g := gb671) (o := .cells #[.int .i64 t666, .int .i64 t667, .bool t668] 25 (0, 0)) (by (with_reducible repeat (first | refine blk_drewN ?_ _ | refine blk_drew ?_ | refine blk_alloc ?_ _)); exact BK671.out)) : gb685 ≠ gb671))
                        have n14_ := Aside0.mk ((by rw [hg]; exact Nat.ne_of_lt (blk_lt (g := gb678) (o := .cells #[.int .i64 t675, .int .i64 t676, .bool t677] 25 (0, 0)) (by (with_reducible repeat (first | refine blk_drewN ?_ _ | refine blk_drew ?_ | refine blk_alloc ?_ _)); exact BK678.out)) : gb678 ≠ gb685))
                        have n15_ := Aside0.mk ((by rw [hg]; exact Nat.ne_of_gt (blk_lt (g := gb678) (o := .cells #[.int .i64 t675, .int .i64 t676, .bool t677] 25 (0, 0)) (by (with_reducible repeat (first | refine blk_drewN ?_ _ | refine blk_drew ?_ | refine blk_alloc ?_ _)); exact BK678.out)) : gb685 ≠ gb678))
                        clear BK669
                        clear BK670
                        clear BK671
                        clear BK678
                        clear HB
                        have BK669 := n0_
                        have BK670 := n1_
                        have BK671 := n2_
                        have BK678 := n3_
                        have HB := n4_
                        have BK685 := n5_
                        have GW685 := n6_
                        have GE685 := n7_
                        have NB669_685 := n8_
                        have NB685_669 := n9_
                        have NB670_685 := n10_
                        have NB685_670 := n11_
                        have NB671_685 := n12_
                        have NB685_671 := n13_
                        have NB678_685 := n14_
                        have NB685_678 := n15_
                        clear n0_ n1_ n2_ n3_ n4_ n5_ n6_ n7_ n8_ n9_ n10_ n11_ n12_ n13_ n14_ n15_
                        clear hb hbox hg
                        refine hK.out _ _ ⟨(blk_cell BK669.out 0).trans rfl, (blk_cell BK669.out 1).trans rfl, (blk_cell BK669.out 2).trans rfl, (blk_cell BK670.out 0).trans rfl, (blk_cell BK670.out 1).trans rfl, (blk_cell BK670.out 2).trans rfl, (blk_cell BK671.out 0).trans rfl, (blk_cell BK671.out 1).trans rfl, (blk_cell BK671.out 2).trans rfl⟩ (fun hHeld => ?_)
                        clear hK K
                        refine norm_ (a' := ?_) ?_ ?_
                        rotate_left
                        · show Act.put _ (some 7) _ = _
                          simp only [Act.put, List.setIfInBounds_toArray, List.set_cons_zero, List.set_cons_succ, i64_w, i32_w]
                          rfl
                        refine one_ (i := 3) (N := some 28) #[true, true, true, true, false, true, false] rfl rfl (by kernel_rfl) (by decide) (fun K hK => ?_)
                        refine goes_ Try.func19 (by kernel_rfl) rfl #[.agg #[.int .i64 t663, .int .i64 t664, .bool t665], .agg #[.int .i64 t666, .int .i64 t667, .bool t668]] (by rfl) rfl rfl (by (try simp only [List.map_toArray, List.map_cons, List.map_nil]); first | done | rfl | (simp only [List.length_drop, List.length_take]; rfl)) ?_
                        with_reducible refine (impl_PointAdd.calls k t663 t664 t665 t666 t667 t668 t679 t680 t681 _ A7.out).mono ?_
                        rintro e w51 ⟨rfl, hb⟩
                        refine ⟨_, rfl, ?_⟩
                        have n0_ := Aside0.mk (blk_below (g := gb669) (o := .cells #[.int .i64 t660, .int .i64 t661, .bool t662] 25 (0, 0)) (by (with_reducible repeat (first | refine blk_drewN ?_ _ | refine blk_drew ?_ | refine blk_alloc ?_ _)); exact BK669.out) hb)
                        have n1_ := Aside0.mk (blk_below (g := gb670) (o := .cells #[.int .i64 t663, .int .i64 t664, .bool t665] 25 (0, 0)) (by (with_reducible repeat (first | refine blk_drewN ?_ _ | refine blk_drew ?_ | refine blk_alloc ?_ _)); exact BK670.out) hb)
                        have n2_ := Aside0.mk (blk_below (g := gb671) (o := .cells #[.int .i64 t666, .int .i64 t667, .bool t668] 25 (0, 0)) (by (with_reducible repeat (first | refine blk_drewN ?_ _ | refine blk_drew ?_ | refine blk_alloc ?_ _)); exact BK671.out) hb)
                        have n3_ := Aside0.mk (blk_below (g := gb678) (o := .cells #[.int .i64 t675, .int .i64 t676, .bool t677] 25 (0, 0)) (by (with_reducible repeat (first | refine blk_drewN ?_ _ | refine blk_drew ?_ | refine blk_alloc ?_ _)); exact BK678.out) hb)
                        have n4_ := Aside0.mk (blk_below (g := gb685) (o := .cells #[.int .i64 0, .int .i64 0, .bool false] 25 (0, 0)) (by (with_reducible repeat (first | refine blk_drewN ?_ _ | refine blk_drew ?_ | refine blk_alloc ?_ _)); exact BK685.out) hb)
                        have n5_ := Aside0.mk (below_step (by repeat (first | (with_reducible first | exact HB.out | apply below_alloc | apply pw_below_drewN | apply below_drew1 | refine below_set ?_ GE669.out | refine below_set ?_ GE670.out | refine below_set ?_ GE671.out | refine below_set ?_ GE678.out | refine below_set ?_ GE685.out) | exact HB.out)) hb)
                        clear BK669
                        clear BK670
                        clear BK671
                        clear BK678
                        clear BK685
                        clear HB
                        have BK669 := n0_
                        have BK670 := n1_
                        have BK671 := n2_
                        have BK678 := n3_
                        have BK685 := n4_
                        have HB := n5_
                        clear n0_ n1_ n2_ n3_ n4_ n5_
                        (try clear hb)
                        (try clear hb2)
                        (try clear hk)
                        (try clear hi)
                        refine hK.out _ _ ⟨(blk_cell BK669.out 0).trans rfl, (blk_cell BK669.out 1).trans rfl, (blk_cell BK669.out 2).trans rfl, (blk_cell BK670.out 0).trans rfl, (blk_cell BK670.out 1).trans rfl, (blk_cell BK670.out 2).trans rfl, (blk_cell BK671.out 0).trans rfl, (blk_cell BK671.out 1).trans rfl, (blk_cell BK671.out 2).trans rfl⟩ (fun hHeld => ?_)
                        clear hK K
                        refine norm_ (a' := ?_) ?_ ?_
                        rotate_left
                        · show Act.put _ (some 28) _ = _
                          simp only [Act.put, List.setIfInBounds_toArray, List.set_cons_zero, List.set_cons_succ, i64_w, i32_w]
                          rfl
                        refine one_ (i := 4) (N := some 29) #[true, true, true, true, true, true, false] rfl rfl (by kernel_rfl) (by decide) (fun K hK => ?_)
                        refine goes_ Try.func19 (by kernel_rfl) rfl #[.agg #[.int .i64 t660, .int .i64 t661, .bool t662], .agg #[.int .i64 t679, .int .i64 t680, .bool t681]] (by rfl) rfl rfl (by (try simp only [List.map_toArray, List.map_cons, List.map_nil]); first | done | rfl | (simp only [List.length_drop, List.length_take]; rfl)) ?_
                        with_reducible refine (impl_PointAdd.calls k t660 t661 t662 t679 t680 t681 t682 t683 t684 _ A8.out).mono ?_
                        rintro e w52 ⟨rfl, hb⟩
                        refine ⟨_, rfl, ?_⟩
                        have n0_ := Aside0.mk (blk_below (g := gb669) (o := .cells #[.int .i64 t660, .int .i64 t661, .bool t662] 25 (0, 0)) (by (with_reducible repeat (first | refine blk_drewN ?_ _ | refine blk_drew ?_ | refine blk_alloc ?_ _)); exact BK669.out) hb)
                        have n1_ := Aside0.mk (blk_below (g := gb670) (o := .cells #[.int .i64 t663, .int .i64 t664, .bool t665] 25 (0, 0)) (by (with_reducible repeat (first | refine blk_drewN ?_ _ | refine blk_drew ?_ | refine blk_alloc ?_ _)); exact BK670.out) hb)
                        have n2_ := Aside0.mk (blk_below (g := gb671) (o := .cells #[.int .i64 t666, .int .i64 t667, .bool t668] 25 (0, 0)) (by (with_reducible repeat (first | refine blk_drewN ?_ _ | refine blk_drew ?_ | refine blk_alloc ?_ _)); exact BK671.out) hb)
                        have n3_ := Aside0.mk (blk_below (g := gb678) (o := .cells #[.int .i64 t675, .int .i64 t676, .bool t677] 25 (0, 0)) (by (with_reducible repeat (first | refine blk_drewN ?_ _ | refine blk_drew ?_ | refine blk_alloc ?_ _)); exact BK678.out) hb)
                        have n4_ := Aside0.mk (blk_below (g := gb685) (o := .cells #[.int .i64 0, .int .i64 0, .bool false] 25 (0, 0)) (by (with_reducible repeat (first | refine blk_drewN ?_ _ | refine blk_drew ?_ | refine blk_alloc ?_ _)); exact BK685.out) hb)
                        have n5_ := Aside0.mk (below_step (by repeat (first | (with_reducible first | exact HB.out | apply below_alloc | apply pw_below_drewN | apply below_drew1 | refine below_set ?_ GE669.out | refine below_set ?_ GE670.out | refine below_set ?_ GE671.out | refine below_set ?_ GE678.out | refine below_set ?_ GE685.out) | exact HB.out)) hb)
                        clear BK669
                        clear BK670
                        clear BK671
                        clear BK678
                        clear BK685
                        clear HB
                        have BK669 := n0_
                        have BK670 := n1_
                        have BK671 := n2_
                        have BK678 := n3_
                        have BK685 := n4_
                        have HB := n5_
                        clear n0_ n1_ n2_ n3_ n4_ n5_
                        (try clear hb)
                        (try clear hb2)
                        (try clear hk)
                        (try clear hi)
                        refine hK.out _ _ ⟨(blk_cell BK669.out 0).trans rfl, (blk_cell BK669.out 1).trans rfl, (blk_cell BK669.out 2).trans rfl, (blk_cell BK670.out 0).trans rfl, (blk_cell BK670.out 1).trans rfl, (blk_cell BK670.out 2).trans rfl, (blk_cell BK671.out 0).trans rfl, (blk_cell BK671.out 1).trans rfl, (blk_cell BK671.out 2).trans rfl⟩ (fun hHeld => ?_)
                        clear hK K
                        refine norm_ (a' := ?_) ?_ ?_
                        rotate_left
                        · show Act.put _ (some 29) _ = _
                          simp only [Act.put, List.setIfInBounds_toArray, List.set_cons_zero, List.set_cons_succ, i64_w, i32_w]
                          rfl
                        exact norm_ (by simp only [putAll, Act.put, List.setIfInBounds_toArray, List.set_cons_zero, List.set_cons_succ]) (hCont (gb685) _ ⟨hHeld, (by (with_reducible repeat (first | refine blk_drewN ?_ _ | refine blk_drew ?_ | refine blk_alloc ?_ _)); exact BK669.out), (by (with_reducible repeat (first | refine blk_drewN ?_ _ | refine blk_drew ?_ | refine blk_alloc ?_ _)); exact BK670.out), (by (with_reducible repeat (first | refine blk_drewN ?_ _ | refine blk_drew ?_ | refine blk_alloc ?_ _)); exact BK671.out), (by (with_reducible repeat (first | refine blk_drewN ?_ _ | refine blk_drew ?_ | refine blk_alloc ?_ _)); exact BK678.out), (by (with_reducible repeat (first | refine blk_drewN ?_ _ | refine blk_drew ?_ | refine blk_alloc ?_ _)); exact BK685.out), GW685.out, GE685.out, NB669_685.out, NB685_669.out, NB670_685.out, NB685_670.out, NB671_685.out, NB685_671.out, NB678_685.out, NB685_678.out, (by repeat (first | (with_reducible first | exact HB.out | apply below_alloc | apply pw_below_drewN | apply below_drew1 | refine below_set ?_ GE669.out | refine below_set ?_ GE670.out | refine below_set ?_ GE671.out | refine below_set ?_ GE678.out | refine below_set ?_ GE685.out) | exact HB.out))⟩)
                    rintro gb685 w53 ⟨hS_, h0_, h1_, h2_, h3_, h4_, h5_, h6_, h7_, h8_, h9_, h10_, h11_, h12_, h13_, h14_, h15_⟩
                    have n0_ : Aside0 (w53.heap[gb669]? = some (.cells #[.int .i64 t660, .int .i64 t661, .bool t662] 25 (0, 0))) := ⟨h0_⟩
                    have n1_ : Aside0 (w53.heap[gb670]? = some (.cells #[.int .i64 t663, .int .i64 t664, .bool t665] 25 (0, 0))) := ⟨h1_⟩
                    have n2_ : Aside0 (w53.heap[gb671]? = some (.cells #[.int .i64 t666, .int .i64 t667, .bool t668] 25 (0, 0))) := ⟨h2_⟩
                    have n3_ : Aside0 (w53.heap[gb678]? = some (.cells #[.int .i64 t675, .int .i64 t676, .bool t677] 25 (0, 0))) := ⟨h3_⟩
                    have n4_ : Aside0 (w53.heap[gb685]? = some (.cells #[.int .i64 0, .int .i64 0, .bool false] 25 (0, 0))) := ⟨h4_⟩
                    have n5_ : Aside0 (w.heap.size ≤ gb685) := ⟨h5_⟩
                    have n6_ : Aside0 (w.heap.size ≤ gb685) := ⟨h6_⟩
                    have n7_ : Aside0 (gb669 ≠ gb685) := ⟨h7_⟩
                    have n8_ : Aside0 (gb685 ≠ gb669) := ⟨h8_⟩
                    have n9_ : Aside0 (gb670 ≠ gb685) := ⟨h9_⟩
                    have n10_ : Aside0 (gb685 ≠ gb670) := ⟨h10_⟩
                    have n11_ : Aside0 (gb671 ≠ gb685) := ⟨h11_⟩
                    have n12_ : Aside0 (gb685 ≠ gb671) := ⟨h12_⟩
                    have n13_ : Aside0 (gb678 ≠ gb685) := ⟨h13_⟩
                    have n14_ : Aside0 (gb685 ≠ gb678) := ⟨h14_⟩
                    have n15_ : Aside0 (Below w.heap.size w w53) := ⟨h15_⟩
                    clear BK669
                    clear BK670
                    clear BK671
                    clear BK678
                    clear HB
                    clear h0_ h1_ h2_ h3_ h4_ h5_ h6_ h7_ h8_ h9_ h10_ h11_ h12_ h13_ h14_ h15_
                    have BK669 := n0_
                    have BK670 := n1_
                    have BK671 := n2_
                    have BK678 := n3_
                    have BK685 := n4_
                    have GW685 := n5_
                    have GE685 := n6_
                    have NB669_685 := n7_
                    have NB685_669 := n8_
                    have NB670_685 := n9_
                    have NB685_670 := n10_
                    have NB671_685 := n11_
                    have NB685_671 := n12_
                    have NB678_685 := n13_
                    have NB685_678 := n14_
                    have HB := n15_
                    clear n0_ n1_ n2_ n3_ n4_ n5_ n6_ n7_ n8_ n9_ n10_ n11_ n12_ n13_ n14_ n15_
                    have hHeld : w53.cell? ⟨gb669, 0, none⟩ = some (.int .i64 t660) ∧ w53.cell? ⟨gb669, 1, none⟩ = some (.int .i64 t661) ∧ w53.cell? ⟨gb669, 2, none⟩ = some (.bool t662) ∧ w53.cell? ⟨gb670, 0, none⟩ = some (.int .i64 t663) ∧ w53.cell? ⟨gb670, 1, none⟩ = some (.int .i64 t664) ∧ w53.cell? ⟨gb670, 2, none⟩ = some (.bool t665) ∧ w53.cell? ⟨gb671, 0, none⟩ = some (.int .i64 t666) ∧ w53.cell? ⟨gb671, 1, none⟩ = some (.int .i64 t667) ∧ w53.cell? ⟨gb671, 2, none⟩ = some (.bool t668) := hS_
                    refine norm_ (a' := ?_) ?_ ?_
                    rotate_left
                    · simp only [putAll, Act.put, List.setIfInBounds_toArray, List.set_cons_zero, List.set_cons_succ]
                      rfl
                    refine one_ (i := 6) (N := none) #[true, true, true, true, true, true, true] rfl rfl (by kernel_rfl) (by decide) (fun K hK => ?_)
                    have hs54 : w53.cell? ⟨gb685, 0, none⟩ = some (.int .i64 0) := (blk_cell BK685.out 0).trans rfl
                    have hfs54 := blk_frozen BK685.out 0
                    have hns54_0 := NB669_685.out
                    have hns54_1 := NB670_685.out
                    have hns54_2 := NB671_685.out
                    have hns54_3 := NB678_685.out
                    have hms54_0 := NB685_669.out
                    have hms54_1 := NB685_670.out
                    have hms54_2 := NB685_671.out
                    have hms54_3 := NB685_678.out
                    have hs55 : w53.cell? ⟨gb685, 1, none⟩ = some (.int .i64 0) := (blk_cell BK685.out 1).trans rfl
                    have hfs55 := blk_frozen BK685.out 1
                    have hns55_0 := NB669_685.out
                    have hns55_1 := NB670_685.out
                    have hns55_2 := NB671_685.out
                    have hns55_3 := NB678_685.out
                    have hms55_0 := NB685_669.out
                    have hms55_1 := NB685_670.out
                    have hms55_2 := NB685_671.out
                    have hms55_3 := NB685_678.out
                    have hs56 : w53.cell? ⟨gb685, 2, none⟩ = some (.bool false) := (blk_cell BK685.out 2).trans rfl
                    have hfs56 := blk_frozen BK685.out 2
                    have hns56_0 := NB669_685.out
                    have hns56_1 := NB670_685.out
                    have hns56_2 := NB671_685.out
                    have hns56_3 := NB678_685.out
                    have hms56_0 := NB685_669.out
                    have hms56_1 := NB685_670.out
                    have hms56_2 := NB685_671.out
                    have hms56_3 := NB685_678.out
                    refine skip_ (w1 := ?_) (by rfl) rfl ?_ ?_
                    rotate_left
                    · go_simp
                      rfl
                    refine hK.out _ _ ⟨((cell_far (p := ⟨gb685, _, none⟩) NB669_685.out _).trans (((cell_far (p := ⟨gb685, _, none⟩) NB669_685.out _).trans (((cell_far (p := ⟨gb685, _, none⟩) NB669_685.out _).trans (hHeld.1)))))), ((cell_far (p := ⟨gb685, _, none⟩) NB669_685.out _).trans (((cell_far (p := ⟨gb685, _, none⟩) NB669_685.out _).trans (((cell_far (p := ⟨gb685, _, none⟩) NB669_685.out _).trans (hHeld.2.1)))))), ((cell_far (p := ⟨gb685, _, none⟩) NB669_685.out _).trans (((cell_far (p := ⟨gb685, _, none⟩) NB669_685.out _).trans (((cell_far (p := ⟨gb685, _, none⟩) NB669_685.out _).trans (hHeld.2.2.1)))))), ((cell_far (p := ⟨gb685, _, none⟩) NB670_685.out _).trans (((cell_far (p := ⟨gb685, _, none⟩) NB670_685.out _).trans (((cell_far (p := ⟨gb685, _, none⟩) NB670_685.out _).trans (hHeld.2.2.2.1)))))), ((cell_far (p := ⟨gb685, _, none⟩) NB670_685.out _).trans (((cell_far (p := ⟨gb685, _, none⟩) NB670_685.out _).trans (((cell_far (p := ⟨gb685, _, none⟩) NB670_685.out _).trans (hHeld.2.2.2.2.1)))))), ((cell_far (p := ⟨gb685, _, none⟩) NB670_685.out _).trans (((cell_far (p := ⟨gb685, _, none⟩) NB670_685.out _).trans (((cell_far (p := ⟨gb685, _, none⟩) NB670_685.out _).trans (hHeld.2.2.2.2.2.1)))))), ((cell_far (p := ⟨gb685, _, none⟩) NB671_685.out _).trans (((cell_far (p := ⟨gb685, _, none⟩) NB671_685.out _).trans (((cell_far (p := ⟨gb685, _, none⟩) NB671_685.out _).trans (hHeld.2.2.2.2.2.2.1)))))), ((cell_far (p := ⟨gb685, _, none⟩) NB671_685.out _).trans (((cell_far (p := ⟨gb685, _, none⟩) NB671_685.out _).trans (((cell_far (p := ⟨gb685, _, none⟩) NB671_685.out _).trans (hHeld.2.2.2.2.2.2.2.1)))))), ((cell_far (p := ⟨gb685, _, none⟩) NB671_685.out _).trans (((cell_far (p := ⟨gb685, _, none⟩) NB671_685.out _).trans (((cell_far (p := ⟨gb685, _, none⟩) NB671_685.out _).trans (hHeld.2.2.2.2.2.2.2.2))))))⟩ (fun hHeld => ?_)
                    clear hK K
                    refine done_ (by kernel_rfl) ?_
                    try go_wp2_with (first | ((with_reducible refine gate_dst (N := 8) rfl ?_); refine box_event ?hg (N := 8) ?hd (cs := #[.int .i64 0, .int .i64 0, .bool false]) (t := 25) ?hr ?_; (case hd => rfl); (case hg => rfl); (case hr => first | (go_simp; done) | (go_simp; rfl)); intro gb686 hg w57 hbox hb; have n0_ := Aside0.mk (blk_below (g := gb669) (o := .cells #[.int .i64 t660, .int .i64 t661, .bool t662] 25 (0, 0)) (by (with_reducible repeat (first | refine blk_drewN ?_ _ | refine blk_drew ?_ | refine blk_alloc ?_ _)); refine blk_far ?_ NB669_685.out _; (with_reducible repeat (first | refine blk_drewN ?_ _ | refine blk_drew ?_ | refine blk_alloc ?_ _)); refine blk_far ?_ NB669_685.out _; (with_reducible repeat (first | refine blk_drewN ?_ _ | refine blk_drew ?_ | refine blk_alloc ?_ _)); refine blk_far ?_ NB669_685.out _; (with_reducible repeat (first | refine blk_drewN ?_ _ | refine blk_drew ?_ | refine blk_alloc ?_ _)); exact BK669.out) hb); have n1_ := Aside0.mk (blk_below (g := gb670) (o := .cells #[.int .i64 t663, .int .i64 t664, .bool t665] 25 (0, 0)) (by (with_reducible repeat (first | refine blk_drewN ?_ _ | refine blk_drew ?_ | refine blk_alloc ?_ _)); refine blk_far ?_ NB670_685.out _; (with_reducible repeat (first | refine blk_drewN ?_ _ | refine blk_drew ?_ | refine blk_alloc ?_ _)); refine blk_far ?_ NB670_685.out _; (with_reducible repeat (first | refine blk_drewN ?_ _ | refine blk_drew ?_ | refine blk_alloc ?_ _)); refine blk_far ?_ NB670_685.out _; (with_reducible repeat (first | refine blk_drewN ?_ _ | refine blk_drew ?_ | refine blk_alloc ?_ _)); exact BK670.out) hb); have n2_ := Aside0.mk (blk_below (g := gb671) (o := .cells #[.int .i64 t666, .int .i64 t667, .bool t668] 25 (0, 0)) (by (with_reducible repeat (first | refine blk_drewN ?_ _ | refine blk_drew ?_ | refine blk_alloc ?_ _)); refine blk_far ?_ NB671_685.out _; (with_reducible repeat (first | refine blk_drewN ?_ _ | refine blk_drew ?_ | refine blk_alloc ?_ _)); refine blk_far ?_ NB671_685.out _; (with_reducible repeat (first | refine blk_drewN ?_ _ | refine blk_drew ?_ | refine blk_alloc ?_ _)); refine blk_far ?_ NB671_685.out _; (with_reducible repeat (first | refine blk_drewN ?_ _ | refine blk_drew ?_ | refine blk_alloc ?_ _)); exact BK671.out) hb); have n3_ := Aside0.mk (blk_below (g := gb678) (o := .cells #[.int .i64 t675, .int .i64 t676, .bool t677] 25 (0, 0)) (by (with_reducible repeat (first | refine blk_drewN ?_ _ | refine blk_drew ?_ | refine blk_alloc ?_ _)); refine blk_far ?_ NB678_685.out _; (with_reducible repeat (first | refine blk_drewN ?_ _ | refine blk_drew ?_ | refine blk_alloc ?_ _)); refine blk_far ?_ NB678_685.out _; (with_reducible repeat (first | refine blk_drewN ?_ _ | refine blk_drew ?_ | refine blk_alloc ?_ _)); refine blk_far ?_ NB678_685.out _; (with_reducible repeat (first | refine blk_drewN ?_ _ | refine blk_drew ?_ | refine blk_alloc ?_ _)); exact BK678.out) hb); have n4_ := Aside0.mk (blk_below (g := gb685) (o := .cells #[.int .i64 t682, .int .i64 t683, .bool t684] 25 (0, 0)) (by (with_reducible repeat (first | refine blk_drewN ?_ _ | refine blk_drew ?_ | refine blk_alloc ?_ _)); refine blk_put (cs := #[.int .i64 t682, .int .i64 t683, .bool false]) ?_ 2 _ rfl; (with_reducible repeat (first | refine blk_drewN ?_ _ | refine blk_drew ?_ | refine blk_alloc ?_ _)); refine blk_put (cs := #[.int .i64 t682, .int .i64 0, .bool false]) ?_ 1 _ rfl; (with_reducible repeat (first | refine blk_drewN ?_ _ | refine blk_drew ?_ | refine blk_alloc ?_ _)); refine blk_put (cs := #[.int .i64 0, .int .i64 0, .bool false]) ?_ 0 _ rfl; (with_reducible repeat (first | refine blk_drewN ?_ _ | refine blk_drew ?_ | refine blk_alloc ?_ _)); exact BK685.out) hb); have n5_ := Aside0.mk (below_step (by repeat (first | (with_reducible first | exact HB.out | apply below_alloc | apply pw_below_drewN | apply below_drew1 | refine below_set ?_ GE669.out | refine below_set ?_ GE670.out | refine below_set ?_ GE671.out | refine below_set ?_ GE678.out | refine below_set ?_ GE685.out) | exact HB.out)) hb); have n6_ := Aside0.mk (hbox); have n7_ := Aside0.mk ((by rw [hg]; exact (below_size (by repeat (first | (with_reducible first | exact HB.out | apply below_alloc | apply pw_below_drewN | apply below_drew1 | refine below_set ?_ GE669.out | refine below_set ?_ GE670.out | refine below_set ?_ GE671.out | refine below_set ?_ GE678.out | refine below_set ?_ GE685.out) | exact HB.out))) : w.heap.size ≤ gb686)); have n8_ := Aside0.mk ((by rw [hg]; exact (below_size (by repeat (first | (with_reducible first | exact HB.out | apply below_alloc | apply pw_below_drewN | apply below_drew1 | refine below_set ?_ GE669.out | refine below_set ?_ GE670.out | refine below_set ?_ GE671.out | refine below_set ?_ GE678.out | refine below_set ?_ GE685.out) | exact HB.out))) : w.heap.size ≤ gb686)); have n9_ := Aside0.mk ((by rw [hg]; exact Nat.ne_of_lt (blk_lt (g := gb669) (o := .cells #[.int .i64 t660, .int .i64 t661, .bool t662] 25 (0, 0)) (by (with_reducible repeat (first | refine blk_drewN ?_ _ | refine blk_drew ?_ | refine blk_alloc ?_ _)); refine blk_far ?_ NB669_685.out _; (with_reducible repeat (first | refine blk_drewN ?_ _ | refine blk_drew ?_ | refine blk_alloc ?_ _)); refine blk_far ?_ NB669_685.out _; (with_reducible repeat (first | refine blk_drewN ?_ _ | refine blk_drew ?_ | refine blk_alloc ?_ _)); refine blk_far ?_ NB669_685.out _; (with_reducible repeat (first | refine blk_drewN ?_ _ | refine blk_drew ?_ | refine blk_alloc ?_ _)); exact BK669.out)) : gb669 ≠ gb686)); have n10_ := Aside0.mk ((by rw [hg]; exact Nat.ne_of_gt (blk_lt (g := gb669) (o := .cells #[.int .i64 t660, .int .i64 t661, .bool t662] 25 (0, 0)) (by (with_reducible repeat (first | refine blk_drewN ?_ _ | refine blk_drew ?_ | refine blk_alloc ?_ _)); refine blk_far ?_ NB669_685.out _; (with_reducible repeat (first | refine blk_drewN ?_ _ | refine blk_drew ?_ | refine blk_alloc ?_ _)); refine blk_far ?_ NB669_685.out _; (with_reducible repeat (first | refine blk_drewN ?_ _ | refine blk_drew ?_ | refine blk_alloc ?_ _)); refine blk_far ?_ NB669_685.out _; (with_reducible repeat (first | refine blk_drewN ?_ _ | refine blk_drew ?_ | refine blk_alloc ?_ _)); exact BK669.out)) : gb686 ≠ gb669)); have n11_ := Aside0.mk ((by rw [hg]; exact Nat.ne_of_lt (blk_lt (g := gb670) (o := .cells #[.int .i64 t663, .int .i64 t664, .bool t665] 25 (0, 0)) (by (with_reducible repeat (first | refine blk_drewN ?_ _ | refine blk_drew ?_ | refine blk_alloc ?_ _)); refine blk_far ?_ NB670_685.out _; (with_reducible repeat (first | refine blk_drewN ?_ _ | refine blk_drew ?_ | refine blk_alloc ?_ _)); refine blk_far ?_ NB670_685.out _; (with_reducible repeat (first | refine blk_drewN ?_ _ | refine blk_drew ?_ | refine blk_alloc ?_ _)); refine blk_far ?_ NB670_685.out _; (with_reducible repeat (first | refine blk_drewN ?_ _ | refine blk_drew ?_ | refine blk_alloc ?_ _)); exact BK670.out)) : gb670 ≠ gb686)); have n12_ := Aside0.mk ((by rw [hg]; exact Nat.ne_of_gt (blk_lt (g := gb670) (o := .cells #[.int .i64 t663, .int .i64 t664, .bool t665] 25 (0, 0)) (by (with_reducible repeat (first | refine blk_drewN ?_ _ | refine blk_drew ?_ | refine blk_alloc ?_ _)); refine blk_far ?_ NB670_685.out _; (with_reducible repeat (first | refine blk_drewN ?_ _ | refine blk_drew ?_ | refine blk_alloc ?_ _)); refine blk_far ?_ NB670_685.out _; (with_reducible repeat (first | refine blk_drewN ?_ _ | refine blk_drew ?_ | refine blk_alloc ?_ _)); refine blk_far ?_ NB670_685.out _; (with_reducible repeat (first | refine blk_drewN ?_ _ | refine blk_drew ?_ | refine blk_alloc ?_ _)); exact BK670.out)) : gb686 ≠ gb670)); have n13_ := Aside0.mk ((by rw [hg]; exact Nat.ne_of_lt (blk_lt (g := gb671) (o := .cells #[.int .i64 t666, .int .i64 t667, .bool t668] 25 (0, 0)) (by (with_reducible repeat (first | refine blk_drewN ?_ _ | refine blk_drew ?_ | refine blk_alloc ?_ _)); refine blk_far ?_ NB671_685.out _; (with_reducible repeat (first | refine blk_drewN ?_ _ | refine blk_drew ?_ | refine blk_alloc ?_ _)); refine blk_far ?_ NB671_685.out _; (with_reducible repeat (first | refine blk_drewN ?_ _ | refine blk_drew ?_ | refine blk_alloc ?_ _)); refine blk_far ?_ NB671_685.out _; (with_reducible repeat (first | refine blk_drewN ?_ _ | refine blk_drew ?_ | refine blk_alloc ?_ _)); exact BK671.out)) : gb671 ≠ gb686)); have n14_ := Aside0.mk ((by rw [hg]; exact Nat.ne_of_gt (blk_lt (g := gb671) (o := .cells #[.int .i64 t666, .int .i64 t667, .bool t668] 25 (0, 0)) (by (with_reducible repeat (first | refine blk_drewN ?_ _ | refine blk_drew ?_ | refine blk_alloc ?_ _)); refine blk_far ?_ NB671_685.out _; (with_reducible repeat (first | refine blk_drewN ?_ _ | refine blk_drew ?_ | refine blk_alloc ?_ _)); refine blk_far ?_ NB671_685.out _; (with_reducible repeat (first | refine blk_drewN ?_ _ | refine blk_drew ?_ | refine blk_alloc ?_ _)); refine blk_far ?_ NB671_685.out _; (with_reducible repeat (first | refine blk_drewN ?_ _ | refine blk_drew ?_ | refine blk_alloc ?_ _)); exact BK671.out)) : gb686 ≠ gb671)); have n15_ := Aside0.mk ((by rw [hg]; exact Nat.ne_of_lt (blk_lt (g := gb678) (o := .cells #[.int .i64 t675, .int .i64 t676, .bool t677] 25 (0, 0)) (by (with_reducible repeat (first | refine blk_drewN ?_ _ | refine blk_drew ?_ | refine blk_alloc ?_ _)); refine blk_far ?_ NB678_685.out _; (with_reducible repeat (first | refine blk_drewN ?_ _ | refine blk_drew ?_ | refine blk_alloc ?_ _)); refine blk_far ?_ NB678_685.out _; (with_reducible repeat (first | refine blk_drewN ?_ _ | refine blk_drew ?_ | refine blk_alloc ?_ _)); refine blk_far ?_ NB678_685.out _; (with_reducible repeat (first | refine blk_drewN ?_ _ | refine blk_drew ?_ | refine blk_alloc ?_ _)); exact BK678.out)) : gb678 ≠ gb686)); have n16_ := Aside0.mk ((by rw [hg]; exact Nat.ne_of_gt (blk_lt (g := gb678) (o := .cells #[.int .i64 t675, .int .i64 t676, .bool t677] 25 (0, 0)) (by (with_reducible repeat (first | refine blk_drewN ?_ _ | refine blk_drew ?_ | refine blk_alloc ?_ _)); refine blk_far ?_ NB678_685.out _; (with_reducible repeat (first | refine blk_drewN ?_ _ | refine blk_drew ?_ | refine blk_alloc ?_ _)); refine blk_far ?_ NB678_685.out _; (with_reducible repeat (first | refine blk_drewN ?_ _ | refine blk_drew ?_ | refine blk_alloc ?_ _)); refine blk_far ?_ NB678_685.out _; (with_reducible repeat (first | refine blk_drewN ?_ _ | refine blk_drew ?_ | refine blk_alloc ?_ _)); exact BK678.out)) : gb686 ≠ gb678)); have n17_ := Aside0.mk ((by rw [hg]; exact Nat.ne_of_lt (blk_lt (g := gb685) (o := .cells #[.int .i64 t682, .int .i64 t683, .bool t684] 25 (0, 0)) (by (with_reducible repeat (first | refine blk_drewN ?_ _ | refine blk_drew ?_ | refine blk_alloc ?_ _)); refine blk_put (cs := #[.int .i64 t682, .int .i64 t683, .bool false]) ?_ 2 _ rfl; (with_reducible repeat (first | refine blk_drewN ?_ _ | refine blk_drew ?_ | refine blk_alloc ?_ _)); refine blk_put (cs := #[.int .i64 t682, .int .i64 0, .bool false]) ?_ 1 _ rfl; (with_reducible repeat (first | refine blk_drewN ?_ _ | refine blk_drew ?_ | refine blk_alloc ?_ _)); refine blk_put (cs := #[.int .i64 0, .int .i64 0, .bool false]) ?_ 0 _ rfl; (with_reducible repeat (first | refine blk_drewN ?_ _ | refine blk_drew ?_ | refine blk_alloc ?_ _)); exact BK685.out)) : gb685 ≠ gb686)); have n18_ := Aside0.mk ((by rw [hg]; exact Nat.ne_of_gt (blk_lt (g := gb685) (o := .cells #[.int .i64 t682, .int .i64 t683, .bool t684] 25 (0, 0)) (by (with_reducible repeat (first | refine blk_drewN ?_ _ | refine blk_drew ?_ | refine blk_alloc ?_ _)); refine blk_put (cs := #[.int .i64 t682, .int .i64 t683, .bool false]) ?_ 2 _ rfl; (with_reducible repeat (first | refine blk_drewN ?_ _ | refine blk_drew ?_ | refine blk_alloc ?_ _)); refine blk_put (cs := #[.int .i64 t682, .int .i64 0, .bool false]) ?_ 1 _ rfl; (with_reducible repeat (first | refine blk_drewN ?_ _ | refine blk_drew ?_ | refine blk_alloc ?_ _)); refine blk_put (cs := #[.int .i64 0, .int .i64 0, .bool false]) ?_ 0 _ rfl; (with_reducible repeat (first | refine blk_drewN ?_ _ | refine blk_drew ?_ | refine blk_alloc ?_ _)); exact BK685.out)) : gb686 ≠ gb685)); clear BK669; clear BK670; clear BK671; clear BK678; clear BK685; clear HB; have BK669 := n0_; have BK670 := n1_; have BK671 := n2_; have BK678 := n3_; have BK685 := n4_; have HB := n5_; have BK686 := n6_; have GW686 := n7_; have GE686 := n8_; have NB669_686 := n9_; have NB686_669 := n10_; have NB670_686 := n11_; have NB686_670 := n12_; have NB671_686 := n13_; have NB686_671 := n14_; have NB678_686 := n15_; have NB686_678 := n16_; have NB685_686 := n17_; have NB686_685 := n18_; clear n0_ n1_ n2_ n3_ n4_ n5_ n6_ n7_ n8_ n9_ n10_ n11_ n12_ n13_ n14_ n15_ n16_ n17_ n18_; clear hb hbox hg; have hnb58 := NB686_669.out; have hnc58 := NB669_686.out; have hnb59 := NB686_670.out; have hnc59 := NB670_686.out; have hnb60 := NB686_671.out; have hnc60 := NB671_686.out; have hnb61 := NB686_678.out; have hnc61 := NB678_686.out; have hnb62 := NB686_685.out; have hnc62 := NB685_686.out; have hcz63_0 : w57.cell? ⟨gb686, 0, none⟩ = some (.int .i64 0) := (blk_cell BK686.out 0).trans rfl; have hcz63_1 : w57.cell? ⟨gb686, 1, none⟩ = some (.int .i64 0) := (blk_cell BK686.out 1).trans rfl; have hcz63_2 : w57.cell? ⟨gb686, 2, none⟩ = some (.bool false) := (blk_cell BK686.out 2).trans rfl; have hfz63_0 := blk_frozen BK686.out 0; have hfz63_1 := blk_frozen BK686.out 1; have hfz63_2 := blk_frozen BK686.out 2) | ((with_reducible refine gate_callee (f := 16) rfl ?_); refine goesL_ (some 32) rfl rfl Try.func16 (by kernel_rfl) rfl #[.slice A0 l0.length c0] rfl (by (try simp only [List.map_toArray, List.map_cons, List.map_nil]); first | done | rfl | (simp only [List.length_drop, List.length_take]; rfl)) ?_; (with_reducible refine (spec_DrawPlaces.calls k _ _ l0 t687 _ ?side1 ?side2 A9.out).mono ?_); (case side1 => exact Kd.C_below HR0.out (by repeat (first | (with_reducible first | exact HB.out | apply below_alloc | apply pw_below_drewN | apply below_drew1 | refine below_set ?_ GE669.out | refine below_set ?_ GE670.out | refine below_set ?_ GE671.out | refine below_set ?_ GE678.out | refine below_set ?_ GE685.out | refine below_set ?_ GE686.out) | exact HB.out))); (case side2 => exact HC0.out); rintro e w64 ⟨v688, rfl, ho0, hb⟩; refine ⟨_, rfl, ?_⟩; have n0_ := Aside0.mk (Kd.R_lower ho0 (below_size (by repeat (first | (with_reducible first | exact HB.out | apply below_alloc | apply pw_below_drewN | apply below_drew1 | refine below_set ?_ GE669.out | refine below_set ?_ GE670.out | refine below_set ?_ GE671.out | refine below_set ?_ GE678.out | refine below_set ?_ GE685.out | refine below_set ?_ GE686.out) | exact HB.out)))); have n1_ := Aside0.mk (blk_below (g := gb669) (o := .cells #[.int .i64 t660, .int .i64 t661, .bool t662] 25 (0, 0)) (by (with_reducible repeat (first | refine blk_drewN ?_ _ | refine blk_drew ?_ | refine blk_alloc ?_ _)); refine blk_far ?_ NB669_686.out _; (with_reducible repeat (first | refine blk_drewN ?_ _ | refine blk_drew ?_ | refine blk_alloc ?_ _)); refine blk_far ?_ NB669_686.out _; (with_reducible repeat (first | refine blk_drewN ?_ _ | refine blk_drew ?_ | refine blk_alloc ?_ _)); refine blk_far ?_ NB669_686.out _; (with_reducible repeat (first | refine blk_drewN ?_ _ | refine blk_drew ?_ | refine blk_alloc ?_ _)); exact BK669.out) hb); have n2_ := Aside0.mk (blk_below (g := gb670) (o := .cells #[.int .i64 t663, .int .i64 t664, .bool t665] 25 (0, 0)) (by (with_reducible repeat (first | refine blk_drewN ?_ _ | refine blk_drew ?_ | refine blk_alloc ?_ _)); refine blk_far ?_ NB670_686.out _; (with_reducible repeat (first | refine blk_drewN ?_ _ | refine blk_drew ?_ | refine blk_alloc ?_ _)); refine blk_far ?_ NB670_686.out _; (with_reducible repeat (first | refine blk_drewN ?_ _ | refine blk_drew ?_ | refine blk_alloc ?_ _)); refine blk_far ?_ NB670_686.out _; (with_reducible repeat (first | refine blk_drewN ?_ _ | refine blk_drew ?_ | refine blk_alloc ?_ _)); exact BK670.out) hb); have n3_ := Aside0.mk (blk_below (g := gb671) (o := .cells #[.int .i64 t666, .int .i64 t667, .bool t668] 25 (0, 0)) (by (with_reducible repeat (first | refine blk_drewN ?_ _ | refine blk_drew ?_ | refine blk_alloc ?_ _)); refine blk_far ?_ NB671_686.out _; (with_reducible repeat (first | refine blk_drewN ?_ _ | refine blk_drew ?_ | refine blk_alloc ?_ _)); refine blk_far ?_ NB671_686.out _; (with_reducible repeat (first | refine blk_drewN ?_ _ | refine blk_drew ?_ | refine blk_alloc ?_ _)); refine blk_far ?_ NB671_686.out _; (with_reducible repeat (first | refine blk_drewN ?_ _ | refine blk_drew ?_ | refine blk_alloc ?_ _)); exact BK671.out) hb); have n4_ := Aside0.mk (blk_below (g := gb678) (o := .cells #[.int .i64 t675, .int .i64 t676, .bool t677] 25 (0, 0)) (by (with_reducible repeat (first | refine blk_drewN ?_ _ | refine blk_drew ?_ | refine blk_alloc ?_ _)); refine blk_far ?_ NB678_686.out _; (with_reducible repeat (first | refine blk_drewN ?_ _ | refine blk_drew ?_ | refine blk_alloc ?_ _)); refine blk_far ?_ NB678_686.out _; (with_reducible repeat (first | refine blk_drewN ?_ _ | refine blk_drew ?_ | refine blk_alloc ?_ _)); refine blk_far ?_ NB678_686.out _; (with_reducible repeat (first | refine blk_drewN ?_ _ | refine blk_drew ?_ | refine blk_alloc ?_ _)); exact BK678.out) hb); have n5_ := Aside0.mk (blk_below (g := gb685) (o := .cells #[.int .i64 t682, .int .i64 t683, .bool t684] 25 (0, 0)) (by (with_reducible repeat (first | refine blk_drewN ?_ _ | refine blk_drew ?_ | refine blk_alloc ?_ _)); refine blk_far ?_ NB685_686.out _; (with_reducible repeat (first | refine blk_drewN ?_ _ | refine blk_drew ?_ | refine blk_alloc ?_ _)); refine blk_far ?_ NB685_686.out _; (with_reducible repeat (first | refine blk_drewN ?_ _ | refine blk_drew ?_ | refine blk_alloc ?_ _)); refine blk_far ?_ NB685_686.out _; (with_reducible repeat (first | refine blk_drewN ?_ _ | refine blk_drew ?_ | refine blk_alloc ?_ _)); exact BK685.out) hb); have n6_ := Aside0.mk (blk_below (g := gb686) (o := .cells #[.int .i64 0, .int .i64 0, .bool true] 25 (0, 0)) (by (with_reducible repeat (first | refine blk_drewN ?_ _ | refine blk_drew ?_ | refine blk_alloc ?_ _)); refine blk_put (cs := #[.int .i64 0, .int .i64 0, .bool false]) ?_ 2 _ rfl; (with_reducible repeat (first | refine blk_drewN ?_ _ | refine blk_drew ?_ | refine blk_alloc ?_ _)); refine blk_put (cs := #[.int .i64 0, .int .i64 0, .bool false]) ?_ 1 _ rfl; (with_reducible repeat (first | refine blk_drewN ?_ _ | refine blk_drew ?_ | refine blk_alloc ?_ _)); refine blk_put (cs := #[.int .i64 0, .int .i64 0, .bool false]) ?_ 0 _ rfl; (with_reducible repeat (first | refine blk_drewN ?_ _ | refine blk_drew ?_ | refine blk_alloc ?_ _)); exact BK686.out) hb); have n7_ := Aside0.mk (below_step (by repeat (first | (with_reducible first | exact HB.out | apply below_alloc | apply pw_below_drewN | apply below_drew1 | refine below_set ?_ GE669.out | refine below_set ?_ GE670.out | refine below_set ?_ GE671.out | refine below_set ?_ GE678.out | refine below_set ?_ GE685.out | refine below_set ?_ GE686.out) | exact HB.out)) hb); clear BK669; clear BK670; clear BK671; clear BK678; clear BK685; clear BK686; clear HB; have HO689 := n0_; have BK669 := n1_; have BK670 := n2_; have BK671 := n3_; have BK678 := n4_; have BK685 := n5_; have BK686 := n6_; have HB := n7_; clear n0_ n1_ n2_ n3_ n4_ n5_ n6_ n7_; (try clear hb); (try clear hb2); (try clear hk); (try clear hi); (try clear ho0); obtain ⟨Ao65, co65, eo65⟩ := Kd.R_slice HO689.out; subst eo65; have p690 : 0 ≤ (0 : Int) := (by omega); have q690 : 0 < (t687.length : Int) := of_decide_eq_true (by first | (with_reducible assumption) | assumption); obtain ⟨ad690, e690, hx690_0⟩ := Kd.at_int (Kd.R_reads' HO689.out).2.2 0 p690 q690; cases e690; have qi690 : (0 < t687.length) = True := eq_true (by omega); (try rw [show ((0 : Int)).toNat = 0 from rfl] at hx690_0); (try rw [Addr.add_zero'] at hx690_0); replace p690 := eq_true p690; replace q690 := eq_true q690; have p691 : 0 ≤ (1 : Int) := (by omega); have q691 : 1 < (t687.length : Int) := of_decide_eq_true (by first | (with_reducible assumption) | assumption); obtain ⟨ad691, e691, hx691_0⟩ := Kd.at_int (Kd.R_reads' HO689.out).2.2 1 p691 q691; obtain rfl : ad690 = ad691 := (by injection e691); (try simp only [show (1 : Int).toNat = 1 from rfl, Nat.reduceMul, Nat.reduceEqDiff, Go.Addr.add, ↓reduceIte] at hx691_0); have qi691 : (1 < t687.length) = True := eq_true (by omega); (try rw [show ((1 : Int)).toNat = 1 from rfl] at hx691_0); replace p691 := eq_true p691; replace q691 := eq_true q691))
                    have n0_ := Aside0.mk (Kd.R_drew HO689.out)
                    have n1_ := Aside0.mk (blk_drew BK669.out)
                    have n2_ := Aside0.mk (blk_drew BK670.out)
                    have n3_ := Aside0.mk (blk_drew BK671.out)
                    have n4_ := Aside0.mk (blk_drew BK678.out)
                    have n5_ := Aside0.mk (blk_drew BK685.out)
                    have n6_ := Aside0.mk (blk_drew BK686.out)
                    have n7_ := Aside0.mk (below_drew1 HB.out)
                    clear HO689
                    clear BK669
                    clear BK670
                    clear BK671
                    clear BK678
                    clear BK685
                    clear BK686
                    clear HB
                    have HO689 := n0_
                    have BK669 := n1_
                    have BK670 := n2_
                    have BK671 := n3_
                    have BK678 := n4_
                    have BK685 := n5_
                    have BK686 := n6_
                    have HB := n7_
                    clear n0_ n1_ n2_ n3_ n4_ n5_ n6_ n7_
                    refine start_ (n := 53) (S := fun w' => w'.cell? ⟨gb678, 0, none⟩ = some (.int .i64 t675) ∧ w'.cell? ⟨gb678, 1, none⟩ = some (.int .i64 t676) ∧ w'.cell? ⟨gb678, 2, none⟩ = some (.bool t677) ∧ w'.cell? ⟨gb685, 0, none⟩ = some (.int .i64 t682) ∧ w'.cell? ⟨gb685, 1, none⟩ = some (.int .i64 t683) ∧ w'.cell? ⟨gb685, 2, none⟩ = some (.bool t684) ∧ w'.cell? ⟨gb669, 0, none⟩ = some (.int .i64 t660) ∧ w'.cell? ⟨gb669, 1, none⟩ = some (.int .i64 t661) ∧ w'.cell? ⟨gb669, 2, none⟩ = some (.bool t662) ∧ w'.cell? ⟨gb670, 0, none⟩ = some (.int .i64 t663) ∧ w'.cell? ⟨gb670, 1, none⟩ = some (.int .i64 t664) ∧ w'.cell? ⟨gb670, 2, none⟩ = some (.bool t665) ∧ w'.cell? ⟨gb686, 0, none⟩ = some (.int .i64 0) ∧ w'.cell? ⟨gb686, 1, none⟩ = some (.int .i64 0) ∧ w'.cell? ⟨gb686, 2, none⟩ = some (.bool true)) (ds := []) #[false, false, false, false, false, false, false, false, false, false, false, false, false, false, false, false, false, false, false, false, false, false, false, false, false, false, false, false, false, false, false, false, false, false, false, false, false, false, false, false, false, false, false, false, false, false, false, false, false, false, false, false, false] (by kernel_rfl) rfl rfl ⟨(blk_cell BK678.out 0).trans rfl, (blk_cell BK678.out 1).trans rfl, (blk_cell BK678.out 2).trans rfl, (blk_cell BK685.out 0).trans rfl, (blk_cell BK685.out 1).trans rfl, (blk_cell BK685.out 2).trans rfl, (blk_cell BK669.out 0).trans rfl, (blk_cell BK669.out 1).trans rfl, (blk_cell BK669.out 2).trans rfl, (blk_cell BK670.out 0).trans rfl, (blk_cell BK670.out 1).trans rfl, (blk_cell BK670.out 2).trans rfl, (blk_cell BK686.out 0).trans rfl, (blk_cell BK686.out 1).trans rfl, (blk_cell BK686.out 2).trans rfl⟩ (fun hHeld => ?_); refine with_tabW laws_FnGroup.tab10 laws_FnGroup.bits10 (fun HT_ HW_ => ?_)
                    generalize w64.drew = w66 at HO689 BK669 BK670 BK671 BK678 BK685 BK686 HB hHeld ⊢
                    refine take_ (i := 0) (N := some 41) (v := ?_) (a' := ?_) #[true, false, false, false, false, false, false, false, false, false, false, false, false, false, false, false, false, false, false, false, false, false, false, false, false, false, false, false, false, false, false, false, false, false, false, false, false, false, false, false, false, false, false, false, false, false, false, false, false, false, false, false, false] rfl rfl (take_ofW HT_.out HW_.out (by kernel_rfl)) (fun _ _ _ h => h) (Or.inl ⟨by rfl, ?_⟩) hHeld ?_ ?_
                    rotate_left
                    · rintro w' ⟨s0, s1, s2, s3, s4, s5, s6, s7, s8, s9, s10, s11, s12, s13, s14⟩
                      go_simp
                      with_reducible rfl
                    rotate_left
                    · simp only [Act.put, List.setIfInBounds_toArray, List.set_cons_zero, List.set_cons_succ, i64_w, i32_w]
                      rfl
                    refine take_ (i := 1) (N := some 42) (v := ?_) (a' := ?_) #[true, true, false, false, false, false, false, false, false, false, false, false, false, false, false, false, false, false, false, false, false, false, false, false, false, false, false, false, false, false, false, false, false, false, false, false, false, false, false, false, false, false, false, false, false, false, false, false, false, false, false, false, false] rfl rfl (take_ofW HT_.out HW_.out (by kernel_rfl)) (fun _ _ _ h => h) (Or.inl ⟨by rfl, ?_⟩) hHeld ?_ ?_
                    rotate_left
                    · rintro w' ⟨s0, s1, s2, s3, s4, s5, s6, s7, s8, s9, s10, s11, s12, s13, s14⟩
                      go_simp
                      with_reducible rfl
                    rotate_left
                    · simp only [Act.put, List.setIfInBounds_toArray, List.set_cons_zero, List.set_cons_succ, i64_w, i32_w]
                      rfl
                    refine pure_ (i := 2) (N := some 43) (v := ?_) (a' := ?_) #[true, true, true, false, false, false, false, false, false, false, false, false, false, false, false, false, false, false, false, false, false, false, false, false, false, false, false, false, false, false, false, false, false, false, false, false, false, false, false, false, false, false, false, false, false, false, false, false, false, false, false, false, false] rfl rfl (any_of HT_.out (by kernel_rfl)) (fun _ _ _ h => h) (Or.inl ⟨by rfl, ?_⟩) ?_ ?_
                    rotate_left
                    · intro w'
                      go_simp
                      with_reducible rfl
                    rotate_left
                    · simp only [Act.put, List.setIfInBounds_toArray, List.set_cons_zero, List.set_cons_succ, i64_w, i32_w]
                      rfl
                    refine pure_ (i := 3) (N := some 44) (v := ?_) (a' := ?_) #[true, true, true, true, false, false, false, false, false, false, false, false, false, false, false, false, false, false, false, false, false, false, false, false, false, false, false, false, false, false, false, false, false, false, false, false, false, false, false, false, false, false, false, false, false, false, false, false, false, false, false, false, false] rfl rfl (any_of HT_.out (by kernel_rfl)) (fun _ _ _ h => h) (Or.inl ⟨by rfl, ?_⟩) ?_ ?_
                    rotate_left
                    · intro w'
                      go_simp
                      with_reducible rfl
                    rotate_left
                    · simp only [Act.put, List.setIfInBounds_toArray, List.set_cons_zero, List.set_cons_succ, i64_w, i32_w]
                      rfl
                    refine take_ (i := 4) (N := some 45) (v := ?_) (a' := ?_) #[true, true, true, true, true, false, false, false, false, false, false, false, false, false, false, false, false, false, false, false, false, false, false, false, false, false, false, false, false, false, false, false, false, false, false, false, false, false, false, false, false, false, false, false, false, false, false, false, false, false, false, false, false] rfl rfl (take_ofW HT_.out HW_.out (by kernel_rfl)) (fun _ _ _ h => h) (Or.inl ⟨by rfl, ?_⟩) hHeld ?_ ?_
                    rotate_left
                    · rintro w' ⟨s0, s1, s2, s3, s4, s5, s6, s7, s8, s9, s10, s11, s12, s13, s14⟩
                      go_simp
                      with_reducible rfl
                    rotate_left
                    · simp only [Act.put, List.setIfInBounds_toArray, List.set_cons_zero, List.set_cons_succ, i64_w, i32_w]
                      rfl
                    refine take_ (i := 5) (N := some 46) (v := ?_) (a' := ?_) #[true, true, true, true, true, true, false, false, false, false, false, false, false, false, false, false, false, false, false, false, false, false, false, false, false, false, false, false, false, false, false, false, false, false, false, false, false, false, false, false, false, false, false, false, false, false, false, false, false, false, false, false, false] rfl rfl (take_ofW HT_.out HW_.out (by kernel_rfl)) (fun _ _ _ h => h) (Or.inl ⟨by rfl, ?_⟩) hHeld ?_ ?_
                    rotate_left
                    · rintro w' ⟨s0, s1, s2, s3, s4, s5, s6, s7, s8, s9, s10, s11, s12, s13, s14⟩
                      go_simp
                      with_reducible rfl
                    rotate_left
                    · simp only [Act.put, List.setIfInBounds_toArray, List.set_cons_zero, List.set_cons_succ, i64_w, i32_w]
                      rfl
                    refine take_ (i := 7) (N := some 48) (v := ?_) (a' := ?_) #[true, true, true, true, true, true, false, true, false, false, false, false, false, false, false, false, false, false, false, false, false, false, false, false, false, false, false, false, false, false, false, false, false, false, false, false, false, false, false, false, false, false, false, false, false, false, false, false, false, false, false, false, false] rfl rfl (take_ofW HT_.out HW_.out (by kernel_rfl)) (fun _ _ _ h => h) (Or.inl ⟨by rfl, ?_⟩) hHeld ?_ ?_
                    rotate_left
                    · rintro w' ⟨s0, s1, s2, s3, s4, s5, s6, s7, s8, s9, s10, s11, s12, s13, s14⟩
                      go_simp
                      with_reducible rfl
                    rotate_left
                    · simp only [Act.put, List.setIfInBounds_toArray, List.set_cons_zero, List.set_cons_succ, i64_w, i32_w]
                      rfl
                    refine take_ (i := 8) (N := some 49) (v := ?_) (a' := ?_) #[true, true, true, true, true, true, false, true, true, false, false, false, false, false, false, false, false, false, false, false, false, false, false, false, false, false, false, false, false, false, false, false, false, false, false, false, false, false, false, false, false, false, false, false, false, false, false, false, false, false, false, false, false] rfl rfl (take_ofW HT_.out HW_.out (by kernel_rfl)) (fun _ _ _ h => h) (Or.inl ⟨by rfl, ?_⟩) hHeld ?_ ?_
                    rotate_left
                    · rintro w' ⟨s0, s1, s2, s3, s4, s5, s6, s7, s8, s9, s10, s11, s12, s13, s14⟩
                      go_simp
                      with_reducible rfl
                    rotate_left
                    · simp only [Act.put, List.setIfInBounds_toArray, List.set_cons_zero, List.set_cons_succ, i64_w, i32_w]
                      rfl
                    refine one_ (i := 6) (N := some 47) #[true, true, true, true, true, true, true, true, true, false, false, false, false, false, false, false, false, false, false, false, false, false, false, false, false, false, false, false, false, false, false, false, false, false, false, false, false, false, false, false, false, false, false, false, false, false, false, false, false, false, false, false, false] rfl rfl (one_of HT_.out (by kernel_rfl)) (by decide) (fun K hK => ?_)
                    refine goes_ Try.func19 (by kernel_rfl) rfl #[.agg #[.int .i64 t660, .int .i64 t661, .bool t662], .agg #[.int .i64 t663, .int .i64 t664, .bool t665]] (by rfl) rfl rfl (by (try simp only [List.map_toArray, List.map_cons, List.map_nil]); first | done | rfl | (simp only [List.length_drop, List.length_take]; rfl)) ?_
                    with_reducible refine (impl_PointAdd.calls k t660 t661 t662 t663 t664 t665 t692 t693 t694 _ A13.out).mono ?_
                    rintro e w67 ⟨rfl, hb⟩
                    refine ⟨_, rfl, ?_⟩
                    have n0_ := Aside0.mk (Kd.R_below (by (with_reducible repeat (first | apply Kd.R_alloc | apply Kd.R_drewN | apply Kd.R_drew)); exact HO689.out) hb)
                    have n1_ := Aside0.mk (blk_below (g := gb669) (o := .cells #[.int .i64 t660, .int .i64 t661, .bool t662] 25 (0, 0)) (by (with_reducible repeat (first | refine blk_drewN ?_ _ | refine blk_drew ?_ | refine blk_alloc ?_ _)); exact BK669.out) hb)
                    have n2_ := Aside0.mk (blk_below (g := gb670) (o := .cells #[.int .i64 t663, .int .i64 t664, .bool t665] 25 (0, 0)) (by (with_reducible repeat (first | refine blk_drewN ?_ _ | refine blk_drew ?_ | refine blk_alloc ?_ _)); exact BK670.out) hb)
                    have n3_ := Aside0.mk (blk_below (g := gb671) (o := .cells #[.int .i64 t666, .int .i64 t667, .bool t668] 25 (0, 0)) (by (with_reducible repeat (first | refine blk_drewN ?_ _ | refine blk_drew ?_ | refine blk_alloc ?_ _)); exact BK671.out) hb)
                    have n4_ := Aside0.mk (blk_below (g := gb678) (o := .cells #[.int .i64 t675, .int .i64 t676, .bool t677] 25 (0, 0)) (by (with_reducible repeat (first | refine blk_drewN ?_ _ | refine blk_drew ?_ | refine blk_alloc ?_ _)); exact BK678.out) hb)
                    have n5_ := Aside0.mk (blk_below (g := gb685) (o := .cells #[.int .i64 t682, .int .i64 t683, .bool t684] 25 (0, 0)) (by (with_reducible repeat (first | refine blk_drewN ?_ _ | refine blk_drew ?_ | refine blk_alloc ?_ _)); exact BK685.out) hb)
                    have n6_ := Aside0.mk (blk_below (g := gb686) (o := .cells #[.int .i64 0, .int .i64 0, .bool true] 25 (0, 0)) (by (with_reducible repeat (first | refine blk_drewN ?_ _ | refine blk_drew ?_ | refine blk_alloc ?_ _)); exact BK686.out) hb)
                    have n7_ := Aside0.mk (below_step (by repeat (first | (with_reducible first | exact HB.out | apply below_alloc | apply pw_below_drewN | apply below_drew1 | refine below_set ?_ GE669.out | refine below_set ?_ GE670.out | refine below_set ?_ GE671.out | refine below_set ?_ GE678.out | refine below_set ?_ GE685.out | refine below_set ?_ GE686.out) | exact HB.out)) hb)
                    clear HO689
                    clear BK669
                    clear BK670
                    clear BK671
                    clear BK678
                    clear BK685
                    clear BK686
                    clear HB
                    have HO689 := n0_
                    have BK669 := n1_
                    have BK670 := n2_
                    have BK671 := n3_
                    have BK678 := n4_
                    have BK685 := n5_
                    have BK686 := n6_
                    have HB := n7_
                    clear n0_ n1_ n2_ n3_ n4_ n5_ n6_ n7_
                    (try clear hb)
                    (try clear hb2)
                    (try clear hk)
                    (try clear hi)
                    refine hK.out _ _ ⟨(blk_cell BK678.out 0).trans rfl, (blk_cell BK678.out 1).trans rfl, (blk_cell BK678.out 2).trans rfl, (blk_cell BK685.out 0).trans rfl, (blk_cell BK685.out 1).trans rfl, (blk_cell BK685.out 2).trans rfl, (blk_cell BK669.out 0).trans rfl, (blk_cell BK669.out 1).trans rfl, (blk_cell BK669.out 2).trans rfl, (blk_cell BK670.out 0).trans rfl, (blk_cell BK670.out 1).trans rfl, (blk_cell BK670.out 2).trans rfl, (blk_cell BK686.out 0).trans rfl, (blk_cell BK686.out 1).trans rfl, (blk_cell BK686.out 2).trans rfl⟩ (fun hHeld => ?_)
                    clear hK K
                    refine norm_ (a' := ?_) ?_ ?_
                    rotate_left
                    · show Act.put _ (some 47) _ = _
                      simp only [Act.put, List.setIfInBounds_toArray, List.set_cons_zero, List.set_cons_succ, i64_w, i32_w]
                      rfl
                    refine one_ (i := 9) (N := some 50) #[true, true, true, true, true, true, true, true, true, true, false, false, false, false, false, false, false, false, false, false, false, false, false, false, false, false, false, false, false, false, false, false, false, false, false, false, false, false, false, false, false, false, false, false, false, false, false, false, false, false, false, false, false] rfl rfl (one_of HT_.out (by kernel_rfl)) (by decide) (fun K hK => ?_)
                    refine goes_ Try.func19 (by kernel_rfl) rfl #[.agg #[.int .i64 t663, .int .i64 t664, .bool t665], .agg #[.int .i64 t660, .int .i64 t661, .bool t662]] (by rfl) rfl rfl (by (try simp only [List.map_toArray, List.map_cons, List.map_nil]); first | done | rfl | (simp only [List.length_drop, List.length_take]; rfl)) ?_
                    with_reducible refine (impl_PointAdd.calls k t663 t664 t665 t660 t661 t662 t695 t696 t697 _ A14.out).mono ?_
                    rintro e w68 ⟨rfl, hb⟩
                    refine ⟨_, rfl, ?_⟩
                    have n0_ := Aside0.mk (Kd.R_below (by (with_reducible repeat (first | apply Kd.R_alloc | apply Kd.R_drewN | apply Kd.R_drew)); exact HO689.out) hb)
                    have n1_ := Aside0.mk (blk_below (g := gb669) (o := .cells #[.int .i64 t660, .int .i64 t661, .bool t662] 25 (0, 0)) (by (with_reducible repeat (first | refine blk_drewN ?_ _ | refine blk_drew ?_ | refine blk_alloc ?_ _)); exact BK669.out) hb)
                    have n2_ := Aside0.mk (blk_below (g := gb670) (o := .cells #[.int .i64 t663, .int .i64 t664, .bool t665] 25 (0, 0)) (by (with_reducible repeat (first | refine blk_drewN ?_ _ | refine blk_drew ?_ | refine blk_alloc ?_ _)); exact BK670.out) hb)
                    have n3_ := Aside0.mk (blk_below (g := gb671) (o := .cells #[.int .i64 t666, .int .i64 t667, .bool t668] 25 (0, 0)) (by (with_reducible repeat (first | refine blk_drewN ?_ _ | refine blk_drew ?_ | refine blk_alloc ?_ _)); exact BK671.out) hb)
                    have n4_ := Aside0.mk (blk_below (g := gb678) (o := .cells #[.int .i64 t675, .int .i64 t676, .bool t677] 25 (0, 0)) (by (with_reducible repeat (first | refine blk_drewN ?_ _ | refine blk_drew ?_ | refine blk_alloc ?_ _)); exact BK678.out) hb)
                    have n5_ := Aside0.mk (blk_below (g := gb685) (o := .cells #[.int .i64 t682, .int .i64 t683, .bool t684] 25 (0, 0)) (by (with_reducible repeat (first | refine blk_drewN ?_ _ | refine blk_drew ?_ | refine blk_alloc ?_ _)); exact BK685.out) hb)
                    have n6_ := Aside0.mk (blk_below (g := gb686) (o := .cells #[.int .i64 0, .int .i64 0, .bool true] 25 (0, 0)) (by (with_reducible repeat (first | refine blk_drewN ?_ _ | refine blk_drew ?_ | refine blk_alloc ?_ _)); exact BK686.out) hb)
                    have n7_ := Aside0.mk (below_step (by repeat (first | (with_reducible first | exact HB.out | apply below_alloc | apply pw_below_drewN | apply below_drew1 | refine below_set ?_ GE669.out | refine below_set ?_ GE670.out | refine below_set ?_ GE671.out | refine below_set ?_ GE678.out | refine below_set ?_ GE685.out | refine below_set ?_ GE686.out) | exact HB.out)) hb)
                    clear HO689
                    clear BK669
                    clear BK670
                    clear BK671
                    clear BK678
                    clear BK685
                    clear BK686
                    clear HB
                    have HO689 := n0_
                    have BK669 := n1_
                    have BK670 := n2_
                    have BK671 := n3_
                    have BK678 := n4_
                    have BK685 := n5_
                    have BK686 := n6_
                    have HB := n7_
                    clear n0_ n1_ n2_ n3_ n4_ n5_ n6_ n7_
                    (try clear hb)
                    (try clear hb2)
                    (try clear hk)
                    (try clear hi)
                    refine hK.out _ _ ⟨(blk_cell BK678.out 0).trans rfl, (blk_cell BK678.out 1).trans rfl, (blk_cell BK678.out 2).trans rfl, (blk_cell BK685.out 0).trans rfl, (blk_cell BK685.out 1).trans rfl, (blk_cell BK685.out 2).trans rfl, (blk_cell BK669.out 0).trans rfl, (blk_cell BK669.out 1).trans rfl, (blk_cell BK669.out 2).trans rfl, (blk_cell BK670.out 0).trans rfl, (blk_cell BK670.out 1).trans rfl, (blk_cell BK670.out 2).trans rfl, (blk_cell BK686.out 0).trans rfl, (blk_cell BK686.out 1).trans rfl, (blk_cell BK686.out 2).trans rfl⟩ (fun hHeld => ?_)
                    clear hK K
                    refine norm_ (a' := ?_) ?_ ?_
                    rotate_left
                    · show Act.put _ (some 50) _ = _
                      simp only [Act.put, List.setIfInBounds_toArray, List.set_cons_zero, List.set_cons_succ, i64_w, i32_w]
                      rfl
                    refine pure_ (i := 10) (N := some 51) (v := ?_) (a' := ?_) #[true, true, true, true, true, true, true, true, true, true, true, false, false, false, false, false, false, false, false, false, false, false, false, false, false, false, false, false, false, false, false, false, false, false, false, false, false, false, false, false, false, false, false, false, false, false, false, false, false, false, false, false, false] rfl rfl (any_of HT_.out (by kernel_rfl)) (fun _ _ _ h => h) (Or.inl ⟨by rfl, ?_⟩) ?_ ?_
                    rotate_left
                    · intro w'
                      go_simp
                      with_reducible rfl
                    rotate_left
                    · simp only [Act.put, List.setIfInBounds_toArray, List.set_cons_zero, List.set_cons_succ, i64_w, i32_w]
                      rfl
                    refine pure_ (i := 11) (N := some 52) (v := ?_) (a' := ?_) #[true, true, true, true, true, true, true, true, true, true, true, true, false, false, false, false, false, false, false, false, false, false, false, false, false, false, false, false, false, false, false, false, false, false, false, false, false, false, false, false, false, false, false, false, false, false, false, false, false, false, false, false, false] rfl rfl (any_of HT_.out (by kernel_rfl)) (fun _ _ _ h => h) (Or.inl ⟨by rfl, ?_⟩) ?_ ?_
                    rotate_left
                    · intro w'
                      go_simp
                      with_reducible rfl
                    rotate_left
                    · simp only [Act.put, List.setIfInBounds_toArray, List.set_cons_zero, List.set_cons_succ, i64_w, i32_w]
                      rfl
                    refine pure_ (i := 12) (N := some 53) (v := ?_) (a' := ?_) #[true, true, true, true, true, true, true, true, true, true, true, true, true, false, false, false, false, false, false, false, false, false, false, false, false, false, false, false, false, false, false, false, false, false, false, false, false, false, false, false, false, false, false, false, false, false, false, false, false, false, false, false, false] rfl rfl (any_of HT_.out (by kernel_rfl)) (fun _ _ _ h => h) (Or.inl ⟨by rfl, ?_⟩) ?_ ?_
                    rotate_left
                    · intro w'
                      go_simp
                      with_reducible rfl
                    rotate_left
                    · simp only [Act.put, List.setIfInBounds_toArray, List.set_cons_zero, List.set_cons_succ, i64_w, i32_w]
                      rfl
                    refine take_ (i := 13) (N := some 54) (v := ?_) (a' := ?_) #[true, true, true, true, true, true, true, true, true, true, true, true, true, true, false, false, false, false, false, false, false, false, false, false, false, false, false, false, false, false, false, false, false, false, false, false, false, false, false, false, false, false, false, false, false, false, false, false, false, false, false, false, false] rfl rfl (take_ofW HT_.out HW_.out (by kernel_rfl)) (fun _ _ _ h => h) (Or.inl ⟨by rfl, ?_⟩) hHeld ?_ ?_
                    rotate_left
                    · rintro w' ⟨s0, s1, s2, s3, s4, s5, s6, s7, s8, s9, s10, s11, s12, s13, s14⟩
                      go_simp
                      with_reducible rfl
                    rotate_left
                    · simp only [Act.put, List.setIfInBounds_toArray, List.set_cons_zero, List.set_cons_succ, i64_w, i32_w]
                      rfl
                    refine take_ (i := 14) (N := some 55) (v := ?_) (a' := ?_) #[true, true, true, true, true, true, true, true, true, true, true, true, true, true, true, false, false, false, false, false, false, false, false, false, false, false, false, false, false, false, false, false, false, false, false, false, false, false, false, false, false, false, false, false, false, false, false, false, false, false, false, false, false] rfl rfl (take_ofW HT_.out HW_.out (by kernel_rfl)) (fun _ _ _ h => h) (Or.inl ⟨by rfl, ?_⟩) hHeld ?_ ?_
                    rotate_left
                    · rintro w' ⟨s0, s1, s2, s3, s4, s5, s6, s7, s8, s9, s10, s11, s12, s13, s14⟩
                      go_simp
                      with_reducible rfl
                    rotate_left
                    · simp only [Act.put, List.setIfInBounds_toArray, List.set_cons_zero, List.set_cons_succ, i64_w, i32_w]
                      rfl
                    refine take_ (i := 16) (N := some 57) (v := ?_) (a' := ?_) #[true, true, true, true, true, true, true, true, true, true, true, true, true, true, true, false, true, false, false, false, false, false, false, false, false, false, false, false, false, false, false, false, false, false, false, false, false, false, false, false, false, false, false, false, false, false, false, false, false, false, false, false, false] rfl rfl (take_ofW HT_.out HW_.out (by kernel_rfl)) (fun _ _ _ h => h) (Or.inl ⟨by rfl, ?_⟩) hHeld ?_ ?_
                    rotate_left
                    · rintro w' ⟨s0, s1, s2, s3, s4, s5, s6, s7, s8, s9, s10, s11, s12, s13, s14⟩
                      go_simp
                      with_reducible rfl
                    rotate_left
                    · simp only [Act.put, List.setIfInBounds_toArray, List.set_cons_zero, List.set_cons_succ, i64_w, i32_w]
                      rfl
                    refine one_ (i := 15) (N := some 56) #[true, true, true, true, true, true, true, true, true, true, true, true, true, true, true, true, true, false, false, false, false, false, false, false, false, false, false, false, false, false, false, false, false, false, false, false, false, false, false, false, false, false, false, false, false, false, false, false, false, false, false, false, false] rfl rfl (one_of HT_.out (by kernel_rfl)) (by decide) (fun K hK => ?_)
                    refine goes_ Try.func19 (by kernel_rfl) rfl #[.agg #[.int .i64 t660, .int .i64 t661, .bool t662], .agg #[.int .i64 0, .int .i64 0, .bool true]] (by rfl) rfl rfl (by (try simp only [List.map_toArray, List.map_cons, List.map_nil]); first | done | rfl | (simp only [List.length_drop, List.length_take]; rfl)) ?_
                    with_reducible refine (impl_PointAdd.calls k t660 t661 t662 0 0 true t698 t699 t700 _ A16.out).mono ?_
                    rintro e w69 ⟨rfl, hb⟩
                    refine ⟨_, rfl, ?_⟩
                    have n0_ := Aside0.mk (Kd.R_below (by (with_reducible repeat (first | apply Kd.R_alloc | apply Kd.R_drewN | apply Kd.R_drew)); exact HO689.out) hb)
                    have n1_ := Aside0.mk (blk_below (g := gb669) (o := .cells #[.int .i64 t660, .int .i64 t661, .bool t662] 25 (0, 0)) (by (with_reducible repeat (first | refine blk_drewN ?_ _ | refine blk_drew ?_ | refine blk_alloc ?_ _)); exact BK669.out) hb)
                    have n2_ := Aside0.mk (blk_below (g := gb670) (o := .cells #[.int .i64 t663, .int .i64 t664, .bool t665] 25 (0, 0)) (by (with_reducible repeat (first | refine blk_drewN ?_ _ | refine blk_drew ?_ | refine blk_alloc ?_ _)); exact BK670.out) hb)
                    have n3_ := Aside0.mk (blk_below (g := gb671) (o := .cells #[.int .i64 t666, .int .i64 t667, .bool t668] 25 (0, 0)) (by (with_reducible repeat (first | refine blk_drewN ?_ _ | refine blk_drew ?_ | refine blk_alloc ?_ _)); exact BK671.out) hb)
                    have n4_ := Aside0.mk (blk_below (g := gb678) (o := .cells #[.int .i64 t675, .int .i64 t676, .bool t677] 25 (0, 0)) (by (with_reducible repeat (first | refine blk_drewN ?_ _ | refine blk_drew ?_ | refine blk_alloc ?_ _)); exact BK678.out) hb)
                    have n5_ := Aside0.mk (blk_below (g := gb685) (o := .cells #[.int .i64 t682, .int .i64 t683, .bool t684] 25 (0, 0)) (by (with_reducible repeat (first | refine blk_drewN ?_ _ | refine blk_drew ?_ | refine blk_alloc ?_ _)); exact BK685.out) hb)
                    have n6_ := Aside0.mk (blk_below (g := gb686) (o := .cells #[.int .i64 0, .int .i64 0, .bool true] 25 (0, 0)) (by (with_reducible repeat (first | refine blk_drewN ?_ _ | refine blk_drew ?_ | refine blk_alloc ?_ _)); exact BK686.out) hb)
                    have n7_ := Aside0.mk (below_step (by repeat (first | (with_reducible first | exact HB.out | apply below_alloc | apply pw_below_drewN | apply below_drew1 | refine below_set ?_ GE669.out | refine below_set ?_ GE670.out | refine below_set ?_ GE671.out | refine below_set ?_ GE678.out | refine below_set ?_ GE685.out | refine below_set ?_ GE686.out) | exact HB.out)) hb)
                    clear HO689
                    clear BK669
                    clear BK670
                    clear BK671
                    clear BK678
                    clear BK685
                    clear BK686
                    clear HB
                    have HO689 := n0_
                    have BK669 := n1_
                    have BK670 := n2_
                    have BK671 := n3_
                    have BK678 := n4_
                    have BK685 := n5_
                    have BK686 := n6_
                    have HB := n7_
                    clear n0_ n1_ n2_ n3_ n4_ n5_ n6_ n7_
                    (try clear hb)
                    (try clear hb2)
                    (try clear hk)
                    (try clear hi)
                    refine hK.out _ _ ⟨(blk_cell BK678.out 0).trans rfl, (blk_cell BK678.out 1).trans rfl, (blk_cell BK678.out 2).trans rfl, (blk_cell BK685.out 0).trans rfl, (blk_cell BK685.out 1).trans rfl, (blk_cell BK685.out 2).trans rfl, (blk_cell BK669.out 0).trans rfl, (blk_cell BK669.out 1).trans rfl, (blk_cell BK669.out 2).trans rfl, (blk_cell BK670.out 0).trans rfl, (blk_cell BK670.out 1).trans rfl, (blk_cell BK670.out 2).trans rfl, (blk_cell BK686.out 0).trans rfl, (blk_cell BK686.out 1).trans rfl, (blk_cell BK686.out 2).trans rfl⟩ (fun hHeld => ?_)
                    clear hK K
                    refine norm_ (a' := ?_) ?_ ?_
                    rotate_left
                    · show Act.put _ (some 56) _ = _
                      simp only [Act.put, List.setIfInBounds_toArray, List.set_cons_zero, List.set_cons_succ, i64_w, i32_w]
                      rfl
                    refine pure_ (i := 17) (N := some 58) (v := ?_) (a' := ?_) #[true, true, true, true, true, true, true, true, true, true, true, true, true, true, true, true, true, true, false, false, false, false, false, false, false, false, false, false, false, false, false, false, false, false, false, false, false, false, false, false, false, false, false, false, false, false, false, false, false, false, false, false, false] rfl rfl (any_of HT_.out (by kernel_rfl)) (fun _ _ _ h => h) (Or.inl ⟨by rfl, ?_⟩) ?_ ?_
                    rotate_left
                    · intro w'
                      go_simp
                      with_reducible rfl
                    rotate_left
                    · simp only [Act.put, List.setIfInBounds_toArray, List.set_cons_zero, List.set_cons_succ, i64_w, i32_w]
                      rfl
                    refine pure_ (i := 18) (N := some 59) (v := ?_) (a' := ?_) #[true, true, true, true, true, true, true, true, true, true, true, true, true, true, true, true, true, true, true, false, false, false, false, false, false, false, false, false, false, false, false, false, false, false, false, false, false, false, false, false, false, false, false, false, false, false, false, false, false, false, false, false, false] rfl rfl (any_of HT_.out (by kernel_rfl)) (fun _ _ _ h => h) (Or.inl ⟨by rfl, ?_⟩) ?_ ?_
                    rotate_left
                    · intro w'
                      go_simp
                      with_reducible rfl
                    rotate_left
                    · simp only [Act.put, List.setIfInBounds_toArray, List.set_cons_zero, List.set_cons_succ, i64_w, i32_w]
                      rfl
                    refine pure_ (i := 19) (N := some 60) (v := ?_) (a' := ?_) #[true, true, true, true, true, true, true, true, true, true, true, true, true, true, true, true, true, true, true, true, false, false, false, false, false, false, false, false, false, false, false, false, false, false, false, false, false, false, false, false, false, false, false, false, false, false, false, false, false, false, false, false, false] rfl rfl (any_of HT_.out (by kernel_rfl)) (fun _ _ _ h => h) (Or.inl ⟨by rfl, ?_⟩) ?_ ?_
                    rotate_left
                    · intro w'
                      go_simp
                      with_reducible rfl
                    rotate_left
                    · simp only [Act.put, List.setIfInBounds_toArray, List.set_cons_zero, List.set_cons_succ, i64_w, i32_w]
                      rfl
                    refine take_ (i := 20) (N := some 61) (v := ?_) (a' := ?_) #[true, true, true, true, true, true, true, true, true, true, true, true, true, true, true, true, true, true, true, true, true, false, false, false, false, false, false, false, false, false, false, false, false, false, false, false, false, false, false, false, false, false, false, false, false, false, false, false, false, false, false, false, false] rfl rfl (take_ofW HT_.out HW_.out (by kernel_rfl)) (fun _ _ _ h => h) (Or.inl ⟨by rfl, ?_⟩) hHeld ?_ ?_
                    rotate_left
                    · rintro w' ⟨s0, s1, s2, s3, s4, s5, s6, s7, s8, s9, s10, s11, s12, s13, s14⟩
                      go_simp
                      with_reducible rfl
                    rotate_left
                    · simp only [Act.put, List.setIfInBounds_toArray, List.set_cons_zero, List.set_cons_succ, i64_w, i32_w]
                      rfl
                    refine take_ (i := 21) (N := some 62) (v := ?_) (a' := ?_) #[true, true, true, true, true, true, true, true, true, true, true, true, true, true, true, true, true, true, true, true, true, true, false, false, false, false, false, false, false, false, false, false, false, false, false, false, false, false, false, false, false, false, false, false, false, false, false, false, false, false, false, false, false] rfl rfl (take_ofW HT_.out HW_.out (by kernel_rfl)) (fun _ _ _ h => h) (Or.inl ⟨by rfl, ?_⟩) hHeld ?_ ?_
                    rotate_left
                    · rintro w' ⟨s0, s1, s2, s3, s4, s5, s6, s7, s8, s9, s10, s11, s12, s13, s14⟩
                      go_simp
                      with_reducible rfl
                    rotate_left
                    · simp only [Act.put, List.setIfInBounds_toArray, List.set_cons_zero, List.set_cons_succ, i64_w, i32_w]
                      rfl
                    refine take_ (i := 24) (N := some 65) (v := ?_) (a' := ?_) #[true, true, true, true, true, true, true, true, true, true, true, true, true, true, true, true, true, true, true, true, true, true, false, false, true, false, false, false, false, false, false, false, false, false, false, false, false, false, false, false, false, false, false, false, false, false, false, false, false, false, false, false, false] rfl rfl (take_ofW HT_.out HW_.out (by kernel_rfl)) (fun _ _ _ h => h) (Or.inl ⟨by rfl, ?_⟩) hHeld ?_ ?_
                    rotate_left
                    · rintro w' ⟨s0, s1, s2, s3, s4, s5, s6, s7, s8, s9, s10, s11, s12, s13, s14⟩
                      go_simp
                      with_reducible rfl
                    rotate_left
                    · simp only [Act.put, List.setIfInBounds_toArray, List.set_cons_zero, List.set_cons_succ, i64_w, i32_w]
                      rfl
                    refine one_ (i := 22) (N := some 63) #[true, true, true, true, true, true, true, true, true, true, true, true, true, true, true, true, true, true, true, true, true, true, true, false, true, false, false, false, false, false, false, false, false, false, false, false, false, false, false, false, false, false, false, false, false, false, false, false, false, false, false, false, false] rfl rfl (one_of HT_.out (by kernel_rfl)) (by decide) (fun K hK => ?_)
                    refine goes_ Try.func30 (by kernel_rfl) rfl #[.agg #[.int .i64 t660, .int .i64 t661, .bool t662]] (by rfl) rfl rfl (by (try simp only [List.map_toArray, List.map_cons, List.map_nil]); first | done | rfl | (simp only [List.length_drop, List.length_take]; rfl)) ?_
                    with_reducible refine (impl_PointNeg.calls t660 t661 t662 t701 t702 t703 _ A18.out).mono ?_
                    rintro e w70 ⟨rfl, hb⟩
                    refine ⟨_, rfl, ?_⟩
                    have n0_ := Aside0.mk (Kd.R_below (by (with_reducible repeat (first | apply Kd.R_alloc | apply Kd.R_drewN | apply Kd.R_drew)); exact HO689.out) hb)
                    have n1_ := Aside0.mk (blk_below (g := gb669) (o := .cells #[.int .i64 t660, .int .i64 t661, .bool t662] 25 (0, 0)) (by (with_reducible repeat (first | refine blk_drewN ?_ _ | refine blk_drew ?_ | refine blk_alloc ?_ _)); exact BK669.out) hb)
                    have n2_ := Aside0.mk (blk_below (g := gb670) (o := .cells #[.int .i64 t663, .int .i64 t664, .bool t665] 25 (0, 0)) (by (with_reducible repeat (first | refine blk_drewN ?_ _ | refine blk_drew ?_ | refine blk_alloc ?_ _)); exact BK670.out) hb)
                    have n3_ := Aside0.mk (blk_below (g := gb671) (o := .cells #[.int .i64 t666, .int .i64 t667, .bool t668] 25 (0, 0)) (by (with_reducible repeat (first | refine blk_drewN ?_ _ | refine blk_drew ?_ | refine blk_alloc ?_ _)); exact BK671.out) hb)
                    have n4_ := Aside0.mk (blk_below (g := gb678) (o := .cells #[.int .i64 t675, .int .i64 t676, .bool t677] 25 (0, 0)) (by (with_reducible repeat (first | refine blk_drewN ?_ _ | refine blk_drew ?_ | refine blk_alloc ?_ _)); exact BK678.out) hb)
                    have n5_ := Aside0.mk (blk_below (g := gb685) (o := .cells #[.int .i64 t682, .int .i64 t683, .bool t684] 25 (0, 0)) (by (with_reducible repeat (first | refine blk_drewN ?_ _ | refine blk_drew ?_ | refine blk_alloc ?_ _)); exact BK685.out) hb)
                    have n6_ := Aside0.mk (blk_below (g := gb686) (o := .cells #[.int .i64 0, .int .i64 0, .bool true] 25 (0, 0)) (by (with_reducible repeat (first | refine blk_drewN ?_ _ | refine blk_drew ?_ | refine blk_alloc ?_ _)); exact BK686.out) hb)
                    have n7_ := Aside0.mk (below_step (by repeat (first | (with_reducible first | exact HB.out | apply below_alloc | apply pw_below_drewN | apply below_drew1 | refine below_set ?_ GE669.out | refine below_set ?_ GE670.out | refine below_set ?_ GE671.out | refine below_set ?_ GE678.out | refine below_set ?_ GE685.out | refine below_set ?_ GE686.out) | exact HB.out)) hb)
                    clear HO689
                    clear BK669
                    clear BK670
                    clear BK671
                    clear BK678
                    clear BK685
                    clear BK686
                    clear HB
                    have HO689 := n0_
                    have BK669 := n1_
                    have BK670 := n2_
                    have BK671 := n3_
                    have BK678 := n4_
                    have BK685 := n5_
                    have BK686 := n6_
                    have HB := n7_
                    clear n0_ n1_ n2_ n3_ n4_ n5_ n6_ n7_
                    (try clear hb)
                    (try clear hb2)
                    (try clear hk)
                    (try clear hi)
                    refine hK.out _ _ ⟨(blk_cell BK678.out 0).trans rfl, (blk_cell BK678.out 1).trans rfl, (blk_cell BK678.out 2).trans rfl, (blk_cell BK685.out 0).trans rfl, (blk_cell BK685.out 1).trans rfl, (blk_cell BK685.out 2).trans rfl, (blk_cell BK669.out 0).trans rfl, (blk_cell BK669.out 1).trans rfl, (blk_cell BK669.out 2).trans rfl, (blk_cell BK670.out 0).trans rfl, (blk_cell BK670.out 1).trans rfl, (blk_cell BK670.out 2).trans rfl, (blk_cell BK686.out 0).trans rfl, (blk_cell BK686.out 1).trans rfl, (blk_cell BK686.out 2).trans rfl⟩ (fun hHeld => ?_)
                    clear hK K
                    refine norm_ (a' := ?_) ?_ ?_
                    rotate_left
                    · show Act.put _ (some 63) _ = _
                      simp only [Act.put, List.setIfInBounds_toArray, List.set_cons_zero, List.set_cons_succ, i64_w, i32_w]
                      rfl
                    refine one_ (i := 23) (N := some 64) #[true, true, true, true, true, true, true, true, true, true, true, true, true, true, true, true, true, true, true, true, true, true, true, true, true, false, false, false, false, false, false, false, false, false, false, false, false, false, false, false, false, false, false, false, false, false, false, false, false, false, false, false, false] rfl rfl (one_of HT_.out (by kernel_rfl)) (by decide) (fun K hK => ?_)
                    refine goes_ Try.func19 (by kernel_rfl) rfl #[.agg #[.int .i64 t660, .int .i64 t661, .bool t662], .agg #[.int .i64 t701, .int .i64 t702, .bool t703]] (by rfl) rfl rfl (by (try simp only [List.map_toArray, List.map_cons, List.map_nil]); first | done | rfl | (simp only [List.length_drop, List.length_take]; rfl)) ?_
                    with_reducible refine (impl_PointAdd.calls k t660 t661 t662 t701 t702 t703 t704 t705 t706 _ A19.out).mono ?_
                    rintro e w71 ⟨rfl, hb⟩
                    refine ⟨_, rfl, ?_⟩
                    have n0_ := Aside0.mk (Kd.R_below (by (with_reducible repeat (first | apply Kd.R_alloc | apply Kd.R_drewN | apply Kd.R_drew)); exact HO689.out) hb)
                    have n1_ := Aside0.mk (blk_below (g := gb669) (o := .cells #[.int .i64 t660, .int .i64 t661, .bool t662] 25 (0, 0)) (by (with_reducible repeat (first | refine blk_drewN ?_ _ | refine blk_drew ?_ | refine blk_alloc ?_ _)); exact BK669.out) hb)
                    have n2_ := Aside0.mk (blk_below (g := gb670) (o := .cells #[.int .i64 t663, .int .i64 t664, .bool t665] 25 (0, 0)) (by (with_reducible repeat (first | refine blk_drewN ?_ _ | refine blk_drew ?_ | refine blk_alloc ?_ _)); exact BK670.out) hb)
                    have n3_ := Aside0.mk (blk_below (g := gb671) (o := .cells #[.int .i64 t666, .int .i64 t667, .bool t668] 25 (0, 0)) (by (with_reducible repeat (first | refine blk_drewN ?_ _ | refine blk_drew ?_ | refine blk_alloc ?_ _)); exact BK671.out) hb)
                    have n4_ := Aside0.mk (blk_below (g := gb678) (o := .cells #[.int .i64 t675, .int .i64 t676, .bool t677] 25 (0, 0)) (by (with_reducible repeat (first | refine blk_drewN ?_ _ | refine blk_drew ?_ | refine blk_alloc ?_ _)); exact BK678.out) hb)
                    have n5_ := Aside0.mk (blk_below (g := gb685) (o := .cells #[.int .i64 t682, .int .i64 t683, .bool t684] 25 (0, 0)) (by (with_reducible repeat (first | refine blk_drewN ?_ _ | refine blk_drew ?_ | refine blk_alloc ?_ _)); exact BK685.out) hb)
                    have n6_ := Aside0.mk (blk_below (g := gb686) (o := .cells #[.int .i64 0, .int .i64 0, .bool true] 25 (0, 0)) (by (with_reducible repeat (first | refine blk_drewN ?_ _ | refine blk_drew ?_ | refine blk_alloc ?_ _)); exact BK686.out) hb)
                    have n7_ := Aside0.mk (below_step (by repeat (first | (with_reducible first | exact HB.out | apply below_alloc | apply pw_below_drewN | apply below_drew1 | refine below_set ?_ GE669.out | refine below_set ?_ GE670.out | refine below_set ?_ GE671.out | refine below_set ?_ GE678.out | refine below_set ?_ GE685.out | refine below_set ?_ GE686.out) | exact HB.out)) hb)
                    clear HO689
                    clear BK669
                    clear BK670
                    clear BK671
                    clear BK678
                    clear BK685
                    clear BK686
                    clear HB
                    have HO689 := n0_
                    have BK669 := n1_
                    have BK670 := n2_
                    have BK671 := n3_
                    have BK678 := n4_
                    have BK685 := n5_
                    have BK686 := n6_
                    have HB := n7_
                    clear n0_ n1_ n2_ n3_ n4_ n5_ n6_ n7_
                    (try clear hb)
                    (try clear hb2)
                    (try clear hk)
                    (try clear hi)
                    refine hK.out _ _ ⟨(blk_cell BK678.out 0).trans rfl, (blk_cell BK678.out 1).trans rfl, (blk_cell BK678.out 2).trans rfl, (blk_cell BK685.out 0).trans rfl, (blk_cell BK685.out 1).trans rfl, (blk_cell BK685.out 2).trans rfl, (blk_cell BK669.out 0).trans rfl, (blk_cell BK669.out 1).trans rfl, (blk_cell BK669.out 2).trans rfl, (blk_cell BK670.out 0).trans rfl, (blk_cell BK670.out 1).trans rfl, (blk_cell BK670.out 2).trans rfl, (blk_cell BK686.out 0).trans rfl, (blk_cell BK686.out 1).trans rfl, (blk_cell BK686.out 2).trans rfl⟩ (fun hHeld => ?_)
                    clear hK K
                    refine norm_ (a' := ?_) ?_ ?_
                    rotate_left
                    · show Act.put _ (some 64) _ = _
                      simp only [Act.put, List.setIfInBounds_toArray, List.set_cons_zero, List.set_cons_succ, i64_w, i32_w]
                      rfl
                    refine pure_ (i := 25) (N := some 66) (v := ?_) (a' := ?_) #[true, true, true, true, true, true, true, true, true, true, true, true, true, true, true, true, true, true, true, true, true, true, true, true, true, true, false, false, false, false, false, false, false, false, false, false, false, false, false, false, false, false, false, false, false, false, false, false, false, false, false, false, false] rfl rfl (any_of HT_.out (by kernel_rfl)) (fun _ _ _ h => h) (Or.inl ⟨by rfl, ?_⟩) ?_ ?_
                    rotate_left
                    · intro w'
                      go_simp
                      with_reducible rfl
                    rotate_left
                    · simp only [Act.put, List.setIfInBounds_toArray, List.set_cons_zero, List.set_cons_succ, i64_w, i32_w]
                      rfl
                    refine pure_ (i := 26) (N := some 67) (v := ?_) (a' := ?_) #[true, true, true, true, true, true, true, true, true, true, true, true, true, true, true, true, true, true, true, true, true, true, true, true, true, true, true, false, false, false, false, false, false, false, false, false, false, false, false, false, false, false, false, false, false, false, false, false, false, false, false, false, false] rfl rfl (any_of HT_.out (by kernel_rfl)) (fun _ _ _ h => h) (Or.inl ⟨by rfl, ?_⟩) ?_ ?_
                    rotate_left
                    · intro w'
                      go_simp
                      with_reducible rfl
                    rotate_left
                    · simp only [Act.put, List.setIfInBounds_toArray, List.set_cons_zero, List.set_cons_succ, i64_w, i32_w]
                      rfl
                    refine pure_ (i := 27) (N := some 68) (v := ?_) (a' := ?_) #[true, true, true, true, true, true, true, true, true, true, true, true, true, true, true, true, true, true, true, true, true, true, true, true, true, true, true, true, false, false, false, false, false, false, false, false, false, false, false, false, false, false, false, false, false, false, false, false, false, false, false, false, false] rfl rfl (any_of HT_.out (by kernel_rfl)) (fun _ _ _ h => h) (Or.inl ⟨by rfl, ?_⟩) ?_ ?_
                    rotate_left
                    · intro w'
                      go_simp
                      with_reducible rfl
                    rotate_left
                    · simp only [Act.put, List.setIfInBounds_toArray, List.set_cons_zero, List.set_cons_succ, i64_w, i32_w]
                      rfl
                    refine take_ (i := 28) (N := some 69) (v := ?_) (a' := ?_) #[true, true, true, true, true, true, true, true, true, true, true, true, true, true, true, true, true, true, true, true, true, true, true, true, true, true, true, true, true, false, false, false, false, false, false, false, false, false, false, false, false, false, false, false, false, false, false, false, false, false, false, false, false] rfl rfl (take_ofW HT_.out HW_.out (by kernel_rfl)) (fun _ _ _ h => h) (Or.inl ⟨by rfl, ?_⟩) hHeld ?_ ?_
                    rotate_left
                    · rintro w' ⟨s0, s1, s2, s3, s4, s5, s6, s7, s8, s9, s10, s11, s12, s13, s14⟩
                      go_simp
                      with_reducible rfl
                    rotate_left
                    · simp only [Act.put, List.setIfInBounds_toArray, List.set_cons_zero, List.set_cons_succ, i64_w, i32_w]
                      rfl
                    refine one_ (i := 29) (N := some 70) #[true, true, true, true, true, true, true, true, true, true, true, true, true, true, true, true, true, true, true, true, true, true, true, true, true, true, true, true, true, true, false, false, false, false, false, false, false, false, false, false, false, false, false, false, false, false, false, false, false, false, false, false, false] rfl rfl (one_of HT_.out (by kernel_rfl)) (by decide) (fun K hK => ?_)
                    refine goes_ Try.func31 (by kernel_rfl) rfl #[.agg #[.int .i64 t675, .int .i64 t676, .bool t677]] (by rfl) rfl rfl (by (try simp only [List.map_toArray, List.map_cons, List.map_nil]); first | done | rfl | (simp only [List.length_drop, List.length_take]; rfl)) ?_
                    with_reducible refine (impl_PointOk.calls t675 t676 t677 true _ A21.out).mono ?_
                    rintro e w72 ⟨rfl, hb⟩
                    refine ⟨_, rfl, ?_⟩
                    have n0_ := Aside0.mk (Kd.R_below (by (with_reducible repeat (first | apply Kd.R_alloc | apply Kd.R_drewN | apply Kd.R_drew)); exact HO689.out) hb)
                    have n1_ := Aside0.mk (blk_below (g := gb669) (o := .cells #[.int .i64 t660, .int .i64 t661, .bool t662] 25 (0, 0)) (by (with_reducible repeat (first | refine blk_drewN ?_ _ | refine blk_drew ?_ | refine blk_alloc ?_ _)); exact BK669.out) hb)
                    have n2_ := Aside0.mk (blk_below (g := gb670) (o := .cells #[.int .i64 t663, .int .i64 t664, .bool t665] 25 (0, 0)) (by (with_reducible repeat (first | refine blk_drewN ?_ _ | refine blk_drew ?_ | refine blk_alloc ?_ _)); exact BK670.out) hb)
                    have n3_ := Aside0.mk (blk_below (g := gb671) (o := .cells #[.int .i64 t666, .int .i64 t667, .bool t668] 25 (0, 0)) (by (with_reducible repeat (first | refine blk_drewN ?_ _ | refine blk_drew ?_ | refine blk_alloc ?_ _)); exact BK671.out) hb)
                    have n4_ := Aside0.mk (blk_below (g := gb678) (o := .cells #[.int .i64 t675, .int .i64 t676, .bool t677] 25 (0, 0)) (by (with_reducible repeat (first | refine blk_drewN ?_ _ | refine blk_drew ?_ | refine blk_alloc ?_ _)); exact BK678.out) hb)
                    have n5_ := Aside0.mk (blk_below (g := gb685) (o := .cells #[.int .i64 t682, .int .i64 t683, .bool t684] 25 (0, 0)) (by (with_reducible repeat (first | refine blk_drewN ?_ _ | refine blk_drew ?_ | refine blk_alloc ?_ _)); exact BK685.out) hb)
                    have n6_ := Aside0.mk (blk_below (g := gb686) (o := .cells #[.int .i64 0, .int .i64 0, .bool true] 25 (0, 0)) (by (with_reducible repeat (first | refine blk_drewN ?_ _ | refine blk_drew ?_ | refine blk_alloc ?_ _)); exact BK686.out) hb)
                    have n7_ := Aside0.mk (below_step (by repeat (first | (with_reducible first | exact HB.out | apply below_alloc | apply pw_below_drewN | apply below_drew1 | refine below_set ?_ GE669.out | refine below_set ?_ GE670.out | refine below_set ?_ GE671.out | refine below_set ?_ GE678.out | refine below_set ?_ GE685.out | refine below_set ?_ GE686.out) | exact HB.out)) hb)
                    clear HO689
                    clear BK669
                    clear BK670
                    clear BK671
                    clear BK678
                    clear BK685
                    clear BK686
                    clear HB
                    have HO689 := n0_
                    have BK669 := n1_
                    have BK670 := n2_
                    have BK671 := n3_
                    have BK678 := n4_
                    have BK685 := n5_
                    have BK686 := n6_
                    have HB := n7_
                    clear n0_ n1_ n2_ n3_ n4_ n5_ n6_ n7_
                    (try clear hb)
                    (try clear hb2)
                    (try clear hk)
                    (try clear hi)
                    refine hK.out _ _ ⟨(blk_cell BK678.out 0).trans rfl, (blk_cell BK678.out 1).trans rfl, (blk_cell BK678.out 2).trans rfl, (blk_cell BK685.out 0).trans rfl, (blk_cell BK685.out 1).trans rfl, (blk_cell BK685.out 2).trans rfl, (blk_cell BK669.out 0).trans rfl, (blk_cell BK669.out 1).trans rfl, (blk_cell BK669.out 2).trans rfl, (blk_cell BK670.out 0).trans rfl, (blk_cell BK670.out 1).trans rfl, (blk_cell BK670.out 2).trans rfl, (blk_cell BK686.out 0).trans rfl, (blk_cell BK686.out 1).trans rfl, (blk_cell BK686.out 2).trans rfl⟩ (fun hHeld => ?_)
                    clear hK K
                    refine norm_ (a' := ?_) ?_ ?_
                    rotate_left
                    · show Act.put _ (some 70) _ = _
                      simp only [Act.put, List.setIfInBounds_toArray, List.set_cons_zero, List.set_cons_succ, i64_w, i32_w]
                      rfl
                    refine pure_ (i := 30) (N := some 71) (v := ?_) (a' := ?_) #[true, true, true, true, true, true, true, true, true, true, true, true, true, true, true, true, true, true, true, true, true, true, true, true, true, true, true, true, true, true, true, false, false, false, false, false, false, false, false, false, false, false, false, false, false, false, false, false, false, false, false, false, false] rfl rfl (any_of HT_.out (by kernel_rfl)) (fun _ _ _ h => h) (Or.inl ⟨by rfl, ?_⟩) ?_ ?_
                    rotate_left
                    · intro w'
                      go_simp
                      with_reducible rfl
                    rotate_left
                    · simp only [Act.put, List.setIfInBounds_toArray, List.set_cons_zero, List.set_cons_succ, i64_w, i32_w]
                      rfl
                    refine pure_ (i := 31) (N := some 72) (v := ?_) (a' := ?_) #[true, true, true, true, true, true, true, true, true, true, true, true, true, true, true, true, true, true, true, true, true, true, true, true, true, true, true, true, true, true, true, true, false, false, false, false, false, false, false, false, false, false, false, false, false, false, false, false, false, false, false, false, false] rfl rfl (any_of HT_.out (by kernel_rfl)) (fun _ _ _ h => h) (Or.inl ⟨by rfl, ?_⟩) ?_ ?_
                    rotate_left
                    · intro w'
                      go_simp
                      with_reducible rfl
                    rotate_left
                    · simp only [Act.put, List.setIfInBounds_toArray, List.set_cons_zero, List.set_cons_succ, i64_w, i32_w]
                      rfl
                    refine pure_ (i := 32) (N := some 73) (v := ?_) (a' := ?_) #[true, true, true, true, true, true, true, true, true, true, true, true, true, true, true, true, true, true, true, true, true, true, true, true, true, true, true, true, true, true, true, true, true, false, false, false, false, false, false, false, false, false, false, false, false, false, false, false, false, false, false, false, false] rfl rfl (any_of HT_.out (by kernel_rfl)) (fun _ _ _ h => h) (Or.inl ⟨by rfl, ?_⟩) ?_ ?_
                    rotate_left
                    · intro w'
                      go_simp
                      with_reducible rfl
                    rotate_left
                    · simp only [Act.put, List.setIfInBounds_toArray, List.set_cons_zero, List.set_cons_succ, i64_w, i32_w]
                      rfl
                    refine pure_ (i := 35) (N := some 76) (v := ?_) (a' := ?_) #[true, true, true, true, true, true, true, true, true, true, true, true, true, true, true, true, true, true, true, true, true, true, true, true, true, true, true, true, true, true, true, true, true, false, false, true, false, false, false, false, false, false, false, false, false, false, false, false, false, false, false, false, false] rfl rfl (any_of HT_.out (by kernel_rfl)) (fun _ _ _ h => h) (Or.inl ⟨by rfl, ?_⟩) ?_ ?_
                    rotate_left
                    · intro w'
                      go_simp
                      with_reducible rfl
                    rotate_left
                    · simp only [Act.put, List.setIfInBounds_toArray, List.set_cons_zero, List.set_cons_succ, i64_w, i32_w]
                      rfl
                    refine pure_ (i := 39) (N := some 80) (v := ?_) (a' := ?_) #[true, true, true, true, true, true, true, true, true, true, true, true, true, true, true, true, true, true, true, true, true, true, true, true, true, true, true, true, true, true, true, true, true, false, false, true, false, false, false, true, false, false, false, false, false, false, false, false, false, false, false, false, false] rfl rfl (any_of HT_.out (by kernel_rfl)) (fun _ _ _ h => h) (Or.inl ⟨by rfl, ?_⟩) ?_ ?_
                    rotate_left
                    · intro w'
                      go_simp
                      with_reducible rfl
                    rotate_left
                    · simp only [Act.put, List.setIfInBounds_toArray, List.set_cons_zero, List.set_cons_succ, i64_w, i32_w]
                      rfl
                    refine pure_ (i := 40) (N := some 81) (v := ?_) (a' := ?_) #[true, true, true, true, true, true, true, true, true, true, true, true, true, true, true, true, true, true, true, true, true, true, true, true, true, true, true, true, true, true, true, true, true, false, false, true, false, false, false, true, true, false, false, false, false, false, false, false, false, false, false, false, false] rfl rfl (any_of HT_.out (by kernel_rfl)) (fun _ _ _ h => h) (Or.inl ⟨by rfl, ?_⟩) ?_ ?_
                    rotate_left
                    · intro w'
                      go_simp
                      with_reducible rfl
                    rotate_left
                    · simp only [Act.put, List.setIfInBounds_toArray, List.set_cons_zero, List.set_cons_succ, i64_w, i32_w]
                      rfl
                    refine pure_ (i := 41) (N := some 82) (v := ?_) (a' := ?_) #[true, true, true, true, true, true, true, true, true, true, true, true, true, true, true, true, true, true, true, true, true, true, true, true, true, true, true, true, true, true, true, true, true, false, false, true, false, false, false, true, true, true, false, false, false, false, false, false, false, false, false, false, false] rfl rfl (any_of HT_.out (by kernel_rfl)) (fun _ _ _ h => h) (Or.inl ⟨by rfl, ?_⟩) ?_ ?_
                    rotate_left
                    · intro w'
                      go_simp
                      with_reducible rfl
                    rotate_left
                    · simp only [Act.put, List.setIfInBounds_toArray, List.set_cons_zero, List.set_cons_succ, i64_w, i32_w]
                      rfl
                    refine take_ (i := 33) (N := some 74) (v := ?_) (a' := ?_) #[true, true, true, true, true, true, true, true, true, true, true, true, true, true, true, true, true, true, true, true, true, true, true, true, true, true, true, true, true, true, true, true, true, true, false, true, false, false, false, true, true, true, false, false, false, false, false, false, false, false, false, false, false] rfl rfl (take_ofW HT_.out HW_.out (by kernel_rfl)) (fun _ _ _ h => h) (Or.inl ⟨by rfl, ?_⟩) hHeld ?_ ?_
                    rotate_left
                    · rintro w' ⟨s0, s1, s2, s3, s4, s5, s6, s7, s8, s9, s10, s11, s12, s13, s14⟩
                      go_simp
                      with_reducible rfl
                    rotate_left
                    · simp only [Act.put, List.setIfInBounds_toArray, List.set_cons_zero, List.set_cons_succ, i64_w, i32_w]
                      rfl
                    refine take_ (i := 36) (N := some 77) (v := ?_) (a' := ?_) #[true, true, true, true, true, true, true, true, true, true, true, true, true, true, true, true, true, true, true, true, true, true, true, true, true, true, true, true, true, true, true, true, true, true, false, true, true, false, false, true, true, true, false, false, false, false, false, false, false, false, false, false, false] rfl rfl (take_ofW HT_.out HW_.out (by kernel_rfl)) (fun _ _ _ h => h) (Or.inl ⟨by rfl, ?_⟩) hHeld ?_ ?_
                    rotate_left
                    · rintro w' ⟨s0, s1, s2, s3, s4, s5, s6, s7, s8, s9, s10, s11, s12, s13, s14⟩
                      go_simp
                      with_reducible rfl
                    rotate_left
                    · simp only [Act.put, List.setIfInBounds_toArray, List.set_cons_zero, List.set_cons_succ, i64_w, i32_w]
                      rfl
                    refine take_ (i := 42) (N := some 83) (v := ?_) (a' := ?_) #[true, true, true, true, true, true, true, true, true, true, true, true, true, true, true, true, true, true, true, true, true, true, true, true, true, true, true, true, true, true, true, true, true, true, false, true, true, false, false, true, true, true, true, false, false, false, false, false, false, false, false, false, false] rfl rfl (take_ofW HT_.out HW_.out (by kernel_rfl)) (fun _ _ _ h => h) (Or.inl ⟨by rfl, ?_⟩) hHeld ?_ ?_
                    rotate_left
                    · rintro w' ⟨s0, s1, s2, s3, s4, s5, s6, s7, s8, s9, s10, s11, s12, s13, s14⟩
                      go_simp
                      with_reducible rfl
                    rotate_left
                    · simp only [Act.put, List.setIfInBounds_toArray, List.set_cons_zero, List.set_cons_succ, i64_w, i32_w]
                      rfl
                    refine one_ (i := 34) (N := some 75) #[true, true, true, true, true, true, true, true, true, true, true, true, true, true, true, true, true, true, true, true, true, true, true, true, true, true, true, true, true, true, true, true, true, true, true, true, true, false, false, true, true, true, true, false, false, false, false, false, false, false, false, false, false] rfl rfl (one_of HT_.out (by kernel_rfl)) (by decide) (fun K hK => ?_)
                    refine goes_ Try.func18 (by kernel_rfl) rfl #[.int .i64 (Int.tmod (rd t687 0) 300), .agg #[.int .i64 t660, .int .i64 t661, .bool t662]] (by rfl) rfl rfl (by (try simp only [List.map_toArray, List.map_cons, List.map_nil]); first | done | rfl | (simp only [List.length_drop, List.length_take]; rfl)) ?_
                    with_reducible refine (impl_PointTimes.calls k (Int.tmod (rd t687 0) 300) t660 t661 t662 t708 t709 t710 _ A23.out).mono ?_
                    rintro e w73 ⟨rfl, hb⟩
                    refine ⟨_, rfl, ?_⟩
                    have n0_ := Aside0.mk (Kd.R_below (by (with_reducible repeat (first | apply Kd.R_alloc | apply Kd.R_drewN | apply Kd.R_drew)); exact HO689.out) hb)
                    have n1_ := Aside0.mk (blk_below (g := gb669) (o := .cells #[.int .i64 t660, .int .i64 t661, .bool t662] 25 (0, 0)) (by (with_reducible repeat (first | refine blk_drewN ?_ _ | refine blk_drew ?_ | refine blk_alloc ?_ _)); exact BK669.out) hb)
                    have n2_ := Aside0.mk (blk_below (g := gb670) (o := .cells #[.int .i64 t663, .int .i64 t664, .bool t665] 25 (0, 0)) (by (with_reducible repeat (first | refine blk_drewN ?_ _ | refine blk_drew ?_ | refine blk_alloc ?_ _)); exact BK670.out) hb)
                    have n3_ := Aside0.mk (blk_below (g := gb671) (o := .cells #[.int .i64 t666, .int .i64 t667, .bool t668] 25 (0, 0)) (by (with_reducible repeat (first | refine blk_drewN ?_ _ | refine blk_drew ?_ | refine blk_alloc ?_ _)); exact BK671.out) hb)
                    have n4_ := Aside0.mk (blk_below (g := gb678) (o := .cells #[.int .i64 t675, .int .i64 t676, .bool t677] 25 (0, 0)) (by (with_reducible repeat (first | refine blk_drewN ?_ _ | refine blk_drew ?_ | refine blk_alloc ?_ _)); exact BK678.out) hb)
                    have n5_ := Aside0.mk (blk_below (g := gb685) (o := .cells #[.int .i64 t682, .int .i64 t683, .bool t684] 25 (0, 0)) (by (with_reducible repeat (first | refine blk_drewN ?_ _ | refine blk_drew ?_ | refine blk_alloc ?_ _)); exact BK685.out) hb)
                    have n6_ := Aside0.mk (blk_below (g := gb686) (o := .cells #[.int .i64 0, .int .i64 0, .bool true] 25 (0, 0)) (by (with_reducible repeat (first | refine blk_drewN ?_ _ | refine blk_drew ?_ | refine blk_alloc ?_ _)); exact BK686.out) hb)
                    have n7_ := Aside0.mk (below_step (by repeat (first | (with_reducible first | exact HB.out | apply below_alloc | apply pw_below_drewN | apply below_drew1 | refine below_set ?_ GE669.out | refine below_set ?_ GE670.out | refine below_set ?_ GE671.out | refine below_set ?_ GE678.out | refine below_set ?_ GE685.out | refine below_set ?_ GE686.out) | exact HB.out)) hb)
                    clear HO689
                    clear BK669
                    clear BK670
                    clear BK671
                    clear BK678
                    clear BK685
                    clear BK686
                    clear HB
                    have HO689 := n0_
                    have BK669 := n1_
                    have BK670 := n2_
                    have BK671 := n3_
                    have BK678 := n4_
                    have BK685 := n5_
                    have BK686 := n6_
                    have HB := n7_
                    clear n0_ n1_ n2_ n3_ n4_ n5_ n6_ n7_
                    (try clear hb)
                    (try clear hb2)
                    (try clear hk)
                    (try clear hi)
                    refine hK.out _ _ ⟨(blk_cell BK678.out 0).trans rfl, (blk_cell BK678.out 1).trans rfl, (blk_cell BK678.out 2).trans rfl, (blk_cell BK685.out 0).trans rfl, (blk_cell BK685.out 1).trans rfl, (blk_cell BK685.out 2).trans rfl, (blk_cell BK669.out 0).trans rfl, (blk_cell BK669.out 1).trans rfl, (blk_cell BK669.out 2).trans rfl, (blk_cell BK670.out 0).trans rfl, (blk_cell BK670.out 1).trans rfl, (blk_cell BK670.out 2).trans rfl, (blk_cell BK686.out 0).trans rfl, (blk_cell BK686.out 1).trans rfl, (blk_cell BK686.out 2).trans rfl⟩ (fun hHeld => ?_)
                    clear hK K
                    refine norm_ (a' := ?_) ?_ ?_
                    rotate_left
                    · show Act.put _ (some 75) _ = _
                      simp only [Act.put, List.setIfInBounds_toArray, List.set_cons_zero, List.set_cons_succ, i64_w, i32_w]
                      rfl
                    refine one_ (i := 37) (N := some 78) #[true, true, true, true, true, true, true, true, true, true, true, true, true, true, true, true, true, true, true, true, true, true, true, true, true, true, true, true, true, true, true, true, true, true, true, true, true, true, false, true, true, true, true, false, false, false, false, false, false, false, false, false, false] rfl rfl (one_of HT_.out (by kernel_rfl)) (by decide) (fun K hK => ?_)
                    refine goes_ Try.func18 (by kernel_rfl) rfl #[.int .i64 (Int.tmod (rd t687 1) 300), .agg #[.int .i64 t660, .int .i64 t661, .bool t662]] (by rfl) rfl rfl (by (try simp only [List.map_toArray, List.map_cons, List.map_nil]); first | done | rfl | (simp only [List.length_drop, List.length_take]; rfl)) ?_
                    with_reducible refine (impl_PointTimes.calls k (Int.tmod (rd t687 1) 300) t660 t661 t662 t711 t712 t713 _ A24.out).mono ?_
                    rintro e w74 ⟨rfl, hb⟩
                    refine ⟨_, rfl, ?_⟩
                    have n0_ := Aside0.mk (Kd.R_below (by (with_reducible repeat (first | apply Kd.R_alloc | apply Kd.R_drewN | apply Kd.R_drew)); exact HO689.out) hb)
                    have n1_ := Aside0.mk (blk_below (g := gb669) (o := .cells #[.int .i64 t660, .int .i64 t661, .bool t662] 25 (0, 0)) (by (with_reducible repeat (first | refine blk_drewN ?_ _ | refine blk_drew ?_ | refine blk_alloc ?_ _)); exact BK669.out) hb)
                    have n2_ := Aside0.mk (blk_below (g := gb670) (o := .cells #[.int .i64 t663, .int .i64 t664, .bool t665] 25 (0, 0)) (by (with_reducible repeat (first | refine blk_drewN ?_ _ | refine blk_drew ?_ | refine blk_alloc ?_ _)); exact BK670.out) hb)
                    have n3_ := Aside0.mk (blk_below (g := gb671) (o := .cells #[.int .i64 t666, .int .i64 t667, .bool t668] 25 (0, 0)) (by (with_reducible repeat (first | refine blk_drewN ?_ _ | refine blk_drew ?_ | refine blk_alloc ?_ _)); exact BK671.out) hb)
                    have n4_ := Aside0.mk (blk_below (g := gb678) (o := .cells #[.int .i64 t675, .int .i64 t676, .bool t677] 25 (0, 0)) (by (with_reducible repeat (first | refine blk_drewN ?_ _ | refine blk_drew ?_ | refine blk_alloc ?_ _)); exact BK678.out) hb)
                    have n5_ := Aside0.mk (blk_below (g := gb685) (o := .cells #[.int .i64 t682, .int .i64 t683, .bool t684] 25 (0, 0)) (by (with_reducible repeat (first | refine blk_drewN ?_ _ | refine blk_drew ?_ | refine blk_alloc ?_ _)); exact BK685.out) hb)
                    have n6_ := Aside0.mk (blk_below (g := gb686) (o := .cells #[.int .i64 0, .int .i64 0, .bool true] 25 (0, 0)) (by (with_reducible repeat (first | refine blk_drewN ?_ _ | refine blk_drew ?_ | refine blk_alloc ?_ _)); exact BK686.out) hb)
                    have n7_ := Aside0.mk (below_step (by repeat (first | (with_reducible first | exact HB.out | apply below_alloc | apply pw_below_drewN | apply below_drew1 | refine below_set ?_ GE669.out | refine below_set ?_ GE670.out | refine below_set ?_ GE671.out | refine below_set ?_ GE678.out | refine below_set ?_ GE685.out | refine below_set ?_ GE686.out) | exact HB.out)) hb)
                    clear HO689
                    clear BK669
                    clear BK670
                    clear BK671
                    clear BK678
                    clear BK685
                    clear BK686
                    clear HB
                    have HO689 := n0_
                    have BK669 := n1_
                    have BK670 := n2_
                    have BK671 := n3_
                    have BK678 := n4_
                    have BK685 := n5_
                    have BK686 := n6_
                    have HB := n7_
                    clear n0_ n1_ n2_ n3_ n4_ n5_ n6_ n7_
                    (try clear hb)
                    (try clear hb2)
                    (try clear hk)
                    (try clear hi)
                    refine hK.out _ _ ⟨(blk_cell BK678.out 0).trans rfl, (blk_cell BK678.out 1).trans rfl, (blk_cell BK678.out 2).trans rfl, (blk_cell BK685.out 0).trans rfl, (blk_cell BK685.out 1).trans rfl, (blk_cell BK685.out 2).trans rfl, (blk_cell BK669.out 0).trans rfl, (blk_cell BK669.out 1).trans rfl, (blk_cell BK669.out 2).trans rfl, (blk_cell BK670.out 0).trans rfl, (blk_cell BK670.out 1).trans rfl, (blk_cell BK670.out 2).trans rfl, (blk_cell BK686.out 0).trans rfl, (blk_cell BK686.out 1).trans rfl, (blk_cell BK686.out 2).trans rfl⟩ (fun hHeld => ?_)
                    clear hK K
                    refine norm_ (a' := ?_) ?_ ?_
                    rotate_left
                    · show Act.put _ (some 78) _ = _
                      simp only [Act.put, List.setIfInBounds_toArray, List.set_cons_zero, List.set_cons_succ, i64_w, i32_w]
                      rfl
                    refine one_ (i := 38) (N := some 79) #[true, true, true, true, true, true, true, true, true, true, true, true, true, true, true, true, true, true, true, true, true, true, true, true, true, true, true, true, true, true, true, true, true, true, true, true, true, true, true, true, true, true, true, false, false, false, false, false, false, false, false, false, false] rfl rfl (one_of HT_.out (by kernel_rfl)) (by decide) (fun K hK => ?_)
                    refine goes_ Try.func19 (by kernel_rfl) rfl #[.agg #[.int .i64 t708, .int .i64 t709, .bool t710], .agg #[.int .i64 t711, .int .i64 t712, .bool t713]] (by rfl) rfl rfl (by (try simp only [List.map_toArray, List.map_cons, List.map_nil]); first | done | rfl | (simp only [List.length_drop, List.length_take]; rfl)) ?_
                    with_reducible refine (impl_PointAdd.calls k t708 t709 t710 t711 t712 t713 t714 t715 t716 _ A25.out).mono ?_
                    rintro e w75 ⟨rfl, hb⟩
                    refine ⟨_, rfl, ?_⟩
                    have n0_ := Aside0.mk (Kd.R_below (by (with_reducible repeat (first | apply Kd.R_alloc | apply Kd.R_drewN | apply Kd.R_drew)); exact HO689.out) hb)
                    have n1_ := Aside0.mk (blk_below (g := gb669) (o := .cells #[.int .i64 t660, .int .i64 t661, .bool t662] 25 (0, 0)) (by (with_reducible repeat (first | refine blk_drewN ?_ _ | refine blk_drew ?_ | refine blk_alloc ?_ _)); exact BK669.out) hb)
                    have n2_ := Aside0.mk (blk_below (g := gb670) (o := .cells #[.int .i64 t663, .int .i64 t664, .bool t665] 25 (0, 0)) (by (with_reducible repeat (first | refine blk_drewN ?_ _ | refine blk_drew ?_ | refine blk_alloc ?_ _)); exact BK670.out) hb)
                    have n3_ := Aside0.mk (blk_below (g := gb671) (o := .cells #[.int .i64 t666, .int .i64 t667, .bool t668] 25 (0, 0)) (by (with_reducible repeat (first | refine blk_drewN ?_ _ | refine blk_drew ?_ | refine blk_alloc ?_ _)); exact BK671.out) hb)
                    have n4_ := Aside0.mk (blk_below (g := gb678) (o := .cells #[.int .i64 t675, .int .i64 t676, .bool t677] 25 (0, 0)) (by (with_reducible repeat (first | refine blk_drewN ?_ _ | refine blk_drew ?_ | refine blk_alloc ?_ _)); exact BK678.out) hb)
                    have n5_ := Aside0.mk (blk_below (g := gb685) (o := .cells #[.int .i64 t682, .int .i64 t683, .bool t684] 25 (0, 0)) (by (with_reducible repeat (first | refine blk_drewN ?_ _ | refine blk_drew ?_ | refine blk_alloc ?_ _)); exact BK685.out) hb)
                    have n6_ := Aside0.mk (blk_below (g := gb686) (o := .cells #[.int .i64 0, .int .i64 0, .bool true] 25 (0, 0)) (by (with_reducible repeat (first | refine blk_drewN ?_ _ | refine blk_drew ?_ | refine blk_alloc ?_ _)); exact BK686.out) hb)
                    have n7_ := Aside0.mk (below_step (by repeat (first | (with_reducible first | exact HB.out | apply below_alloc | apply pw_below_drewN | apply below_drew1 | refine below_set ?_ GE669.out | refine below_set ?_ GE670.out | refine below_set ?_ GE671.out | refine below_set ?_ GE678.out | refine below_set ?_ GE685.out | refine below_set ?_ GE686.out) | exact HB.out)) hb)
                    clear HO689
                    clear BK669
                    clear BK670
                    clear BK671
                    clear BK678
                    clear BK685
                    clear BK686
                    clear HB
                    have HO689 := n0_
                    have BK669 := n1_
                    have BK670 := n2_
                    have BK671 := n3_
                    have BK678 := n4_
                    have BK685 := n5_
                    have BK686 := n6_
                    have HB := n7_
                    clear n0_ n1_ n2_ n3_ n4_ n5_ n6_ n7_
                    (try clear hb)
                    (try clear hb2)
                    (try clear hk)
                    (try clear hi)
                    refine hK.out _ _ ⟨(blk_cell BK678.out 0).trans rfl, (blk_cell BK678.out 1).trans rfl, (blk_cell BK678.out 2).trans rfl, (blk_cell BK685.out 0).trans rfl, (blk_cell BK685.out 1).trans rfl, (blk_cell BK685.out 2).trans rfl, (blk_cell BK669.out 0).trans rfl, (blk_cell BK669.out 1).trans rfl, (blk_cell BK669.out 2).trans rfl, (blk_cell BK670.out 0).trans rfl, (blk_cell BK670.out 1).trans rfl, (blk_cell BK670.out 2).trans rfl, (blk_cell BK686.out 0).trans rfl, (blk_cell BK686.out 1).trans rfl, (blk_cell BK686.out 2).trans rfl⟩ (fun hHeld => ?_)
                    clear hK K
                    refine norm_ (a' := ?_) ?_ ?_
                    rotate_left
                    · show Act.put _ (some 79) _ = _
                      simp only [Act.put, List.setIfInBounds_toArray, List.set_cons_zero, List.set_cons_succ, i64_w, i32_w]
                      rfl
                    refine one_ (i := 43) (N := some 84) #[true, true, true, true, true, true, true, true, true, true, true, true, true, true, true, true, true, true, true, true, true, true, true, true, true, true, true, true, true, true, true, true, true, true, true, true, true, true, true, true, true, true, true, true, false, false, false, false, false, false, false, false, false] rfl rfl (one_of HT_.out (by kernel_rfl)) (by decide) (fun K hK => ?_)
                    refine goes_ Try.func18 (by kernel_rfl) rfl #[.int .i64 (wrap64 ((Int.tmod (rd t687 0) 300) + (Int.tmod (rd t687 1) 300))), .agg #[.int .i64 t660, .int .i64 t661, .bool t662]] (by rfl) rfl rfl (by (try simp only [List.map_toArray, List.map_cons, List.map_nil]); first | done | rfl | (simp only [List.length_drop, List.length_take]; rfl)) ?_
                    with_reducible refine (impl_PointTimes.calls k (wrap64 ((Int.tmod (rd t687 0) 300) + (Int.tmod (rd t687 1) 300))) t660 t661 t662 t717 t718 t719 _ A26.out).mono ?_
                    rintro e w76 ⟨rfl, hb⟩
                    refine ⟨_, rfl, ?_⟩
                    have n0_ := Aside0.mk (Kd.R_below (by (with_reducible repeat (first | apply Kd.R_alloc | apply Kd.R_drewN | apply Kd.R_drew)); exact HO689.out) hb)
                    have n1_ := Aside0.mk (blk_below (g := gb669) (o := .cells #[.int .i64 t660, .int .i64 t661, .bool t662] 25 (0, 0)) (by (with_reducible repeat (first | refine blk_drewN ?_ _ | refine blk_drew ?_ | refine blk_alloc ?_ _)); exact BK669.out) hb)
                    have n2_ := Aside0.mk (blk_below (g := gb670) (o := .cells #[.int .i64 t663, .int .i64 t664, .bool t665] 25 (0, 0)) (by (with_reducible repeat (first | refine blk_drewN ?_ _ | refine blk_drew ?_ | refine blk_alloc ?_ _)); exact BK670.out) hb)
                    have n3_ := Aside0.mk (blk_below (g := gb671) (o := .cells #[.int .i64 t666, .int .i64 t667, .bool t668] 25 (0, 0)) (by (with_reducible repeat (first | refine blk_drewN ?_ _ | refine blk_drew ?_ | refine blk_alloc ?_ _)); exact BK671.out) hb)
                    have n4_ := Aside0.mk (blk_below (g := gb678) (o := .cells #[.int .i64 t675, .int .i64 t676, .bool t677] 25 (0, 0)) (by (with_reducible repeat (first | refine blk_drewN ?_ _ | refine blk_drew ?_ | refine blk_alloc ?_ _)); exact BK678.out) hb)
                    have n5_ := Aside0.mk (blk_below (g := gb685) (o := .cells #[.int .i64 t682, .int .i64 t683, .bool t684] 25 (0, 0)) (by (with_reducible repeat (first | refine blk_drewN ?_ _ | refine blk_drew ?_ | refine blk_alloc ?_ _)); exact BK685.out) hb)
                    have n6_ := Aside0.mk (blk_below (g := gb686) (o := .cells #[.int .i64 0, .int .i64 0, .bool true] 25 (0, 0)) (by (with_reducible repeat (first | refine blk_drewN ?_ _ | refine blk_drew ?_ | refine blk_alloc ?_ _)); exact BK686.out) hb)
                    have n7_ := Aside0.mk (below_step (by repeat (first | (with_reducible first | exact HB.out | apply below_alloc | apply pw_below_drewN | apply below_drew1 | refine below_set ?_ GE669.out | refine below_set ?_ GE670.out | refine below_set ?_ GE671.out | refine below_set ?_ GE678.out | refine below_set ?_ GE685.out | refine below_set ?_ GE686.out) | exact HB.out)) hb)
                    clear HO689
                    clear BK669
                    clear BK670
                    clear BK671
                    clear BK678
                    clear BK685
                    clear BK686
                    clear HB
                    have HO689 := n0_
                    have BK669 := n1_
                    have BK670 := n2_
                    have BK671 := n3_
                    have BK678 := n4_
                    have BK685 := n5_
                    have BK686 := n6_
                    have HB := n7_
                    clear n0_ n1_ n2_ n3_ n4_ n5_ n6_ n7_
                    (try clear hb)
                    (try clear hb2)
                    (try clear hk)
                    (try clear hi)
                    refine hK.out _ _ ⟨(blk_cell BK678.out 0).trans rfl, (blk_cell BK678.out 1).trans rfl, (blk_cell BK678.out 2).trans rfl, (blk_cell BK685.out 0).trans rfl, (blk_cell BK685.out 1).trans rfl, (blk_cell BK685.out 2).trans rfl, (blk_cell BK669.out 0).trans rfl, (blk_cell BK669.out 1).trans rfl, (blk_cell BK669.out 2).trans rfl, (blk_cell BK670.out 0).trans rfl, (blk_cell BK670.out 1).trans rfl, (blk_cell BK670.out 2).trans rfl, (blk_cell BK686.out 0).trans rfl, (blk_cell BK686.out 1).trans rfl, (blk_cell BK686.out 2).trans rfl⟩ (fun hHeld => ?_)
                    clear hK K
                    refine norm_ (a' := ?_) ?_ ?_
                    rotate_left
                    · show Act.put _ (some 84) _ = _
                      simp only [Act.put, List.setIfInBounds_toArray, List.set_cons_zero, List.set_cons_succ, i64_w, i32_w]
                      rfl
                    refine pure_ (i := 44) (N := some 85) (v := ?_) (a' := ?_) #[true, true, true, true, true, true, true, true, true, true, true, true, true, true, true, true, true, true, true, true, true, true, true, true, true, true, true, true, true, true, true, true, true, true, true, true, true, true, true, true, true, true, true, true, true, false, false, false, false, false, false, false, false] rfl rfl (any_of HT_.out (by kernel_rfl)) (fun _ _ _ h => h) (Or.inl ⟨by rfl, ?_⟩) ?_ ?_
                    rotate_left
                    · intro w'
                      go_simp
                      with_reducible rfl
                    rotate_left
                    · simp only [Act.put, List.setIfInBounds_toArray, List.set_cons_zero, List.set_cons_succ, i64_w, i32_w]
                      rfl
                    refine pure_ (i := 45) (N := some 86) (v := ?_) (a' := ?_) #[true, true, true, true, true, true, true, true, true, true, true, true, true, true, true, true, true, true, true, true, true, true, true, true, true, true, true, true, true, true, true, true, true, true, true, true, true, true, true, true, true, true, true, true, true, true, false, false, false, false, false, false, false] rfl rfl (any_of HT_.out (by kernel_rfl)) (fun _ _ _ h => h) (Or.inl ⟨by rfl, ?_⟩) ?_ ?_
                    rotate_left
                    · intro w'
                      go_simp
                      with_reducible rfl
                    rotate_left
                    · simp only [Act.put, List.setIfInBounds_toArray, List.set_cons_zero, List.set_cons_succ, i64_w, i32_w]
                      rfl
                    refine pure_ (i := 46) (N := some 87) (v := ?_) (a' := ?_) #[true, true, true, true, true, true, true, true, true, true, true, true, true, true, true, true, true, true, true, true, true, true, true, true, true, true, true, true, true, true, true, true, true, true, true, true, true, true, true, true, true, true, true, true, true, true, true, false, false, false, false, false, false] rfl rfl (any_of HT_.out (by kernel_rfl)) (fun _ _ _ h => h) (Or.inl ⟨by rfl, ?_⟩) ?_ ?_
                    rotate_left
                    · intro w'
                      go_simp
                      with_reducible rfl
                    rotate_left
                    · simp only [Act.put, List.setIfInBounds_toArray, List.set_cons_zero, List.set_cons_succ, i64_w, i32_w]
                      rfl
                    refine take_ (i := 47) (N := some 88) (v := ?_) (a' := ?_) #[true, true, true, true, true, true, true, true, true, true, true, true, true, true, true, true, true, true, true, true, true, true, true, true, true, true, true, true, true, true, true, true, true, true, true, true, true, true, true, true, true, true, true, true, true, true, true, true, false, false, false, false, false] rfl rfl (take_ofW HT_.out HW_.out (by kernel_rfl)) (fun _ _ _ h => h) (Or.inl ⟨by rfl, ?_⟩) hHeld ?_ ?_
                    rotate_left
                    · rintro w' ⟨s0, s1, s2, s3, s4, s5, s6, s7, s8, s9, s10, s11, s12, s13, s14⟩
                      go_simp
                      with_reducible rfl
                    rotate_left
                    · simp only [Act.put, List.setIfInBounds_toArray, List.set_cons_zero, List.set_cons_succ, i64_w, i32_w]
                      rfl
                    refine take_ (i := 49) (N := some 90) (v := ?_) (a' := ?_) #[true, true, true, true, true, true, true, true, true, true, true, true, true, true, true, true, true, true, true, true, true, true, true, true, true, true, true, true, true, true, true, true, true, true, true, true, true, true, true, true, true, true, true, true, true, true, true, true, false, true, false, false, false] rfl rfl (take_ofW HT_.out HW_.out (by kernel_rfl)) (fun _ _ _ h => h) (Or.inl ⟨by rfl, ?_⟩) hHeld ?_ ?_
                    rotate_left
                    · rintro w' ⟨s0, s1, s2, s3, s4, s5, s6, s7, s8, s9, s10, s11, s12, s13, s14⟩
                      go_simp
                      with_reducible rfl
                    rotate_left
                    · simp only [Act.put, List.setIfInBounds_toArray, List.set_cons_zero, List.set_cons_succ, i64_w, i32_w]
                      rfl
                    refine one_ (i := 48) (N := some 89) #[true, true, true, true, true, true, true, true, true, true, true, true, true, true, true, true, true, true, true, true, true, true, true, true, true, true, true, true, true, true, true, true, true, true, true, true, true, true, true, true, true, true, true, true, true, true, true, true, true, true, false, false, false] rfl rfl (one_of HT_.out (by kernel_rfl)) (by decide) (fun K hK => ?_)
                    refine goes_ Try.func18 (by kernel_rfl) rfl #[.int .i64 12108, .agg #[.int .i64 t660, .int .i64 t661, .bool t662]] (by rfl) rfl rfl (by (try simp only [List.map_toArray, List.map_cons, List.map_nil]); first | done | rfl | (simp only [List.length_drop, List.length_take]; rfl)) ?_
                    with_reducible refine (impl_PointTimes.calls k 12108 t660 t661 t662 t720 t721 t722 _ A28.out).mono ?_
                    rintro e w77 ⟨rfl, hb⟩
                    refine ⟨_, rfl, ?_⟩
                    have n0_ := Aside0.mk (Kd.R_below (by (with_reducible repeat (first | apply Kd.R_alloc | apply Kd.R_drewN | apply Kd.R_drew)); exact HO689.out) hb)
                    have n1_ := Aside0.mk (blk_below (g := gb669) (o := .cells #[.int .i64 t660, .int .i64 t661, .bool t662] 25 (0, 0)) (by (with_reducible repeat (first | refine blk_drewN ?_ _ | refine blk_drew ?_ | refine blk_alloc ?_ _)); exact BK669.out) hb)
                    have n2_ := Aside0.mk (blk_below (g := gb670) (o := .cells #[.int .i64 t663, .int .i64 t664, .bool t665] 25 (0, 0)) (by (with_reducible repeat (first | refine blk_drewN ?_ _ | refine blk_drew ?_ | refine blk_alloc ?_ _)); exact BK670.out) hb)
                    have n3_ := Aside0.mk (blk_below (g := gb671) (o := .cells #[.int .i64 t666, .int .i64 t667, .bool t668] 25 (0, 0)) (by (with_reducible repeat (first | refine blk_drewN ?_ _ | refine blk_drew ?_ | refine blk_alloc ?_ _)); exact BK671.out) hb)
                    have n4_ := Aside0.mk (blk_below (g := gb678) (o := .cells #[.int .i64 t675, .int .i64 t676, .bool t677] 25 (0, 0)) (by (with_reducible repeat (first | refine blk_drewN ?_ _ | refine blk_drew ?_ | refine blk_alloc ?_ _)); exact BK678.out) hb)
                    have n5_ := Aside0.mk (blk_below (g := gb685) (o := .cells #[.int .i64 t682, .int .i64 t683, .bool t684] 25 (0, 0)) (by (with_reducible repeat (first | refine blk_drewN ?_ _ | refine blk_drew ?_ | refine blk_alloc ?_ _)); exact BK685.out) hb)
                    have n6_ := Aside0.mk (blk_below (g := gb686) (o := .cells #[.int .i64 0, .int .i64 0, .bool true] 25 (0, 0)) (by (with_reducible repeat (first | refine blk_drewN ?_ _ | refine blk_drew ?_ | refine blk_alloc ?_ _)); exact BK686.out) hb)
                    have n7_ := Aside0.mk (below_step (by repeat (first | (with_reducible first | exact HB.out | apply below_alloc | apply pw_below_drewN | apply below_drew1 | refine below_set ?_ GE669.out | refine below_set ?_ GE670.out | refine below_set ?_ GE671.out | refine below_set ?_ GE678.out | refine below_set ?_ GE685.out | refine below_set ?_ GE686.out) | exact HB.out)) hb)
                    clear HO689
                    clear BK669
                    clear BK670
                    clear BK671
                    clear BK678
                    clear BK685
                    clear BK686
                    clear HB
                    have HO689 := n0_
                    have BK669 := n1_
                    have BK670 := n2_
                    have BK671 := n3_
                    have BK678 := n4_
                    have BK685 := n5_
                    have BK686 := n6_
                    have HB := n7_
                    clear n0_ n1_ n2_ n3_ n4_ n5_ n6_ n7_
                    (try clear hb)
                    (try clear hb2)
                    (try clear hk)
                    (try clear hi)
                    refine hK.out _ _ ⟨(blk_cell BK678.out 0).trans rfl, (blk_cell BK678.out 1).trans rfl, (blk_cell BK678.out 2).trans rfl, (blk_cell BK685.out 0).trans rfl, (blk_cell BK685.out 1).trans rfl, (blk_cell BK685.out 2).trans rfl, (blk_cell BK669.out 0).trans rfl, (blk_cell BK669.out 1).trans rfl, (blk_cell BK669.out 2).trans rfl, (blk_cell BK670.out 0).trans rfl, (blk_cell BK670.out 1).trans rfl, (blk_cell BK670.out 2).trans rfl, (blk_cell BK686.out 0).trans rfl, (blk_cell BK686.out 1).trans rfl, (blk_cell BK686.out 2).trans rfl⟩ (fun hHeld => ?_)
                    clear hK K
                    refine norm_ (a' := ?_) ?_ ?_
                    rotate_left
                    · show Act.put _ (some 89) _ = _
                      simp only [Act.put, List.setIfInBounds_toArray, List.set_cons_zero, List.set_cons_succ, i64_w, i32_w]
                      rfl
                    refine pure_ (i := 50) (N := some 91) (v := ?_) (a' := ?_) #[true, true, true, true, true, true, true, true, true, true, true, true, true, true, true, true, true, true, true, true, true, true, true, true, true, true, true, true, true, true, true, true, true, true, true, true, true, true, true, true, true, true, true, true, true, true, true, true, true, true, true, false, false] rfl rfl (any_of HT_.out (by kernel_rfl)) (fun _ _ _ h => h) (Or.inl ⟨by rfl, ?_⟩) ?_ ?_
                    rotate_left
                    · intro w'
                      go_simp
                      with_reducible rfl
                    rotate_left
                    · simp only [Act.put, List.setIfInBounds_toArray, List.set_cons_zero, List.set_cons_succ, i64_w, i32_w]
                      rfl
                    refine pure_ (i := 51) (N := some 92) (v := ?_) (a' := ?_) #[true, true, true, true, true, true, true, true, true, true, true, true, true, true, true, true, true, true, true, true, true, true, true, true, true, true, true, true, true, true, true, true, true, true, true, true, true, true, true, true, true, true, true, true, true, true, true, true, true, true, true, true, false] rfl rfl (any_of HT_.out (by kernel_rfl)) (fun _ _ _ h => h) (Or.inl ⟨by rfl, ?_⟩) ?_ ?_
                    rotate_left
                    · intro w'
                      go_simp
                      with_reducible rfl
                    rotate_left
                    · simp only [Act.put, List.setIfInBounds_toArray, List.set_cons_zero, List.set_cons_succ, i64_w, i32_w]
                      rfl
                    refine pure_ (i := 52) (N := some 2) (v := ?_) (a' := ?_) #[true, true, true, true, true, true, true, true, true, true, true, true, true, true, true, true, true, true, true, true, true, true, true, true, true, true, true, true, true, true, true, true, true, true, true, true, true, true, true, true, true, true, true, true, true, true, true, true, true, true, true, true, true] rfl rfl (any_of HT_.out (by kernel_rfl)) (fun _ _ _ h => h) (Or.inl ⟨by rfl, ?_⟩) ?_ ?_
                    rotate_left
                    · intro w'
                      go_simp
                      with_reducible rfl
                    rotate_left
                    · simp only [Act.put, List.setIfInBounds_toArray, List.set_cons_zero, List.set_cons_succ, i64_w, i32_w]
                      rfl
                    refine done_ (done_of HT_.out (by kernel_rfl)) ?_
                    try go_wp2
                    go_ret
                    exact ⟨by first | rfl | (simp [errW_none, errW_some] <;> rfl) | (simp [*, errW_none, errW_some] <;> rfl), by repeat (first | (with_reducible first | exact HB.out | apply below_alloc | apply pw_below_drewN | apply below_drew1 | refine below_set ?_ GE669.out | refine below_set ?_ GE670.out | refine below_set ?_ GE671.out | refine below_set ?_ GE678.out | refine below_set ?_ GE685.out | refine below_set ?_ GE686.out) | exact HB.out)⟩
                  · rw [if_neg c27] at H
                    have c27b0 : (t714 == t717 && (t715 == t718 && (t716 == t719))) = false := by simpa using c27
                    (try (have c27b1 : decide (t714 = t717 && (t715 == t718 && (t716 == t719))) = false := by simpa using c27))
                    (try (have c27b2 : (t714 == t717 && (t715 == t718 && (t716 == t719))) = false := by simpa using c27))
                    (try (have c27b3 : ¬ (t714 = t717 && (t715 == t718 && (t716 == t719))) := by simpa using c27))
                    clear c27
                    exact absurd (Option.some.inj H) (by rw [htrue.out]; exact Bool.false_ne_true)
                · replace c22 := Bool.eq_false_iff.mpr c22
                  subst c22
                  have H1 : (some false) = some r := by rw [if_neg (show ¬ (false = true) by decide)] at H; exact H
                  clear H
                  have H := H1
                  clear H1
                  exact absurd (Option.some.inj H) (by rw [htrue.out]; exact Bool.false_ne_true)
              · rw [if_neg c20] at H
                have c20b0 : (t704 == 0 && (t705 == 0 && (t706))) = false := by simpa using c20
                (try (have c20b1 : decide (t704 = 0 && (t705 == 0 && (t706))) = false := by simpa using c20))
                (try (have c20b2 : (t704 == 0 && (t705 == 0 && (t706))) = false := by simpa using c20))
                (try (have c20b3 : ¬ (t704 = 0 && (t705 == 0 && (t706))) := by simpa using c20))
                clear c20
                exact absurd (Option.some.inj H) (by rw [htrue.out]; exact Bool.false_ne_true)
            · rw [if_neg c17] at H
              have c17b0 : (t698 == t660 && (t699 == t661 && (t700 == t662))) = false := by simpa using c17
              (try (have c17b1 : decide (t698 = t660 && (t699 == t661 && (t700 == t662))) = false := by simpa using c17))
              (try (have c17b2 : (t698 == t660 && (t699 == t661 && (t700 == t662))) = false := by simpa using c17))
              (try (have c17b3 : ¬ (t698 = t660 && (t699 == t661 && (t700 == t662))) := by simpa using c17))
              clear c17
              exact absurd (Option.some.inj H) (by rw [htrue.out]; exact Bool.false_ne_true)
          · rw [if_neg c15] at H
            have c15b0 : (t692 == t695 && (t693 == t696 && (t694 == t697))) = false := by simpa using c15
            (try (have c15b1 : decide (t692 = t695 && (t693 == t696 && (t694 == t697))) = false := by simpa using c15))
            (try (have c15b2 : (t692 == t695 && (t693 == t696 && (t694 == t697))) = false := by simpa using c15))
            (try (have c15b3 : ¬ (t692 = t695 && (t693 == t696 && (t694 == t697))) := by simpa using c15))
            clear c15
            exact absurd (Option.some.inj H) (by rw [htrue.out]; exact Bool.false_ne_true)
        · rw [if_neg c12] at H
          have c12b0 : (t675 == t682 && (t676 == t683 && (t677 == t684))) = false := by simpa using c12
          (try (have c12b1 : decide (t675 = t682 && (t676 == t683 && (t677 == t684))) = false := by simpa using c12))
          (try (have c12b2 : (t675 == t682 && (t676 == t683 && (t677 == t684))) = false := by simpa using c12))
          (try (have c12b3 : ¬ (t675 = t682 && (t676 == t683 && (t677 == t684))) := by simpa using c12))
          clear c12
          exact absurd (Option.some.inj H) (by rw [htrue.out]; exact Bool.false_ne_true)
      · rw [if_neg c11] at H
        exact absurd H (by simp)
    · rw [if_neg c10] at H
      exact absurd H (by simp)

/-- THE ONE PURE STATEMENT of laws_FnGroup: yours. -/
def laws_FnGroup.Pure : Prop := ∀ (l0 : List Int), l0.length ≤ maxLen → l0.length * 1 ≤ 140737488351232 → (∀ x ∈ l0, (Lit.int .u8 x).wf = true) → ∃ k, laws_FnGroup.f k l0 = some true
theorem laws_FnGroup.walk (P : laws_FnGroup.Pure) (a0 : Option Addr) (len0 cap0 : Nat) (z0 : List Int) (w : World) (w0 : (a0 = none ∧ len0 = 0 ∧ cap0 = 0 ∧ z0 = []) ∨ ∃ x, a0 = some x ∧ len0 ≤ cap0 ∧ cap0 ≤ maxLen ∧ z0.length = cap0 ∧ (∀ i, i < z0.length → w.cell? (x.add i) = some (.int .u8 (z0.getD i 0))) ∧ ∀ n ∈ z0, (Lit.int .u8 n).wf = true) (y0 : len0 * 1 ≤ 140737488351232) :
    Calls Try.prog 6 #[.slice a0 len0 cap0] w fun e w' => e = .returned (.bool true) ∧ Below w.heap.size w w' := by
  obtain ⟨l0, rfl, hr0, hm0, hw0, hc0⟩ := ReadsInt.ofRowC w0
  obtain ⟨k, h⟩ := P l0 hm0 y0 hw0
  refine (laws_FnGroup.calls k _ _ l0 true w (Kd.C_of_reads (d := (0 : Int)) (h1 := fun _ => rfl) hr0) hc0 ⟨rfl⟩ h).mono ?_
  rintro e w' ⟨rfl, hd⟩
  exact ⟨rfl, hd⟩

end Go.Proofs.Ytmbjefdkjdemhaa.Pf
end
