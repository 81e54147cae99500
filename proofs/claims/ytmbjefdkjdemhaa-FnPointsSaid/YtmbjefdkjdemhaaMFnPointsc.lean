/- What is proved here: part 3 of 5 of the proof of the given statement FnPoints: the contracts of the Go functions that it reaches, the plain facts on lists and numbers, and (in the last part) the statement itself. No conditions beyond the given ones. -/
import Derived.Test.YtmbjefdkjdemhaaMFnPointswSlim
import Derived.Test.YtmbjefdkjdemhaaMFnPointsa
import Derived.Test.YtmbjefdkjdemhaaMFnPointsb

section
namespace Go.Proofs.Ytmbjefdkjdemhaa.Pf
open Go.RowKit Go.Proofs.YtmbjefdkjdemhaaW.PrintWords Go.Proofs.YtmbjefdkjdemhaaW.PrintLast Go.Proofs.YtmbjefdkjdemhaaW.PrintMore
attribute [local go_sem] max2_int min2_int max_two min_two max_three min_three max_four min_four   -- for this text's walks alone
set_option linter.unusedVariables false
set_option linter.unusedSimpArgs false
/-! ### spec_DrawReadPoint: function 45 -/
def spec_DrawReadPoint.f (k : Nat) (l0 : List Int) : Option (ByteArray) := (spec_l01New.f k l0).bind fun bt439 => ((spec_l01Below.f bt439.1 bt439.2.1 bt439.2.2 4).bind fun bt443 => ((spec_l07Any.f k bt439.1 bt443.2.1 bt443.2.2).bind fun bt446 => ((spec_PointText.f bt446.1 bt446.2.1 bt446.2.2.1).bind fun t451 => (if bt443.1 = 0 then ((spec_l01Text.f k bt439.1 bt446.2.2.2.1 bt446.2.2.2.2 3).bind fun bt452 => (some bt452.1)) else (if bt443.1 = 1 then (if t451.size + 1 ≤ 9223372036854775807 then (some (t451 ++ (⟨#[120]⟩ : ByteArray))) else (none)) else (if bt443.1 = 2 then ((spec_l02Spoilt.f k bt439.1 bt446.2.2.2.1 bt446.2.2.2.2 t451).bind fun bt455 => (some bt455.1)) else (some t451)))))))
theorem spec_DrawReadPoint.mono : ∀ a0 k, LeO (spec_DrawReadPoint.f k a0) (spec_DrawReadPoint.f (k + 1) a0) := by
 intro a0 k
 unfold spec_DrawReadPoint.f
 repeat' first
   | (with_reducible exact spec_l01New.mono _ _)
   | (with_reducible exact spec_l01Text.mono _ _ _ _ _)
   | (with_reducible exact spec_l02Spoilt.mono _ _ _ _ _)
   | (with_reducible exact spec_l07Any.mono _ _ _ _)
   | (with_reducible exact LeO.refl _)
   | (with_reducible exact LeO.none _)
   | (with_reducible refine LeO.ite ?_ ?_)
   | (with_reducible refine LeO.bind ?_ (fun _ => ?_))
   | exact spec_l01New.mono _ _
   | exact spec_l01Text.mono _ _ _ _ _
   | exact spec_l02Spoilt.mono _ _ _ _ _
   | exact spec_l07Any.mono _ _ _ _
   | exact LeO.none _
   | refine LeO.ite ?_ ?_
   | refine LeO.bind ?_ (fun _ => ?_)
set_option maxHeartbeats 8000000 in
set_option maxRecDepth 100000 in
theorem spec_DrawReadPoint.calls (k : Nat) (A0 : Option Addr) (c0 : Nat) (l0 : List Int) (r : ByteArray) (w : World) (hr0 : Kd.C (Kd.int .u8) w A0 l0.length l0) (hc0 : l0.length ≤ c0) (h : spec_DrawReadPoint.f k l0 = some r) :
  Calls Try.prog 45 #[.slice A0 l0.length c0] w fun e w' => e = .returned (.string r) ∧ Below w.heap.size w w' := by
 have HR0 := Aside0.mk hr0
 have HC0 := Aside0.mk hc0
 clear hr0 hc0
 have HB := Aside0.mk (Below.refl w.heap.size w)
 have H : ((spec_l01New.f k l0).bind fun bt439 => ((spec_l01Below.f bt439.1 bt439.2.1 bt439.2.2 4).bind fun bt443 => ((spec_l07Any.f k bt439.1 bt443.2.1 bt443.2.2).bind fun bt446 => ((spec_PointText.f bt446.1 bt446.2.1 bt446.2.2.1).bind fun t451 => (if bt443.1 = 0 then ((spec_l01Text.f k bt439.1 bt446.2.2.2.1 bt446.2.2.2.2 3).bind fun bt452 => (some bt452.1)) else (if bt443.1 = 1 then (if t451.size + 1 ≤ 9223372036854775807 then (some (t451 ++ (⟨#[120]⟩ : ByteArray))) else (none)) else (if bt443.1 = 2 then ((spec_l02Spoilt.f k bt439.1 bt446.2.2.2.1 bt446.2.2.2.2 t451).bind fun bt455 => (some bt455.1)) else (some t451)))))))) = some r := h
 clear h
 replace H := Option.bind_eq_some_iff.mp H
 obtain ⟨⟨t439, t440, t441⟩, A20, H⟩ := H
 have A2 := Aside0.mk A20
 clear A20
 replace H := Option.bind_eq_some_iff.mp H
 obtain ⟨⟨t443, t444, t445⟩, A30, H⟩ := H
 have A3 := Aside0.mk A30
 clear A30
 replace H := Option.bind_eq_some_iff.mp H
 obtain ⟨⟨t446, t447, t448, t449, t450⟩, A40, H⟩ := H
 have A4 := Aside0.mk A40
 clear A40
 replace H := Option.bind_eq_some_iff.mp H
 obtain ⟨t451, A50, H⟩ := H
 have A5 := Aside0.mk A50
 clear A50
 by_cases c6 : t443 = 0
 ·rw [if_pos c6] at H
  have c6b0 : (t443 == 0) = true := beq_iff_eq.mpr c6
  have c6b1 : (t443 != 0) = false := bne_eq_false_iff_eq.mpr c6
  clear c6
  replace H := Option.bind_eq_some_iff.mp H
  obtain ⟨⟨t452, t453, t454⟩, A70, H⟩ := H
  have A7 := Aside0.mk A70
  clear A70
  obtain rfl := Option.some.inj H
  go_enter Try.func45, Try.ntmps45
  go_wp2_with (first | ((with_reducible refine gate_callee (f := 59) rfl ?_); refine gL (some 7) Try.func59 #[.slice A0 l0.length c0] ?_; (with_reducible refine (spec_l01New.calls k _ _ l0 t439 t440 t441 w _ ?side1 ?side2 ?side3 A2.out).mono ?_); (case side1 => repeat (first | (with_reducible first | exact HB.out | apply below_alloc | apply pw_below_drewN | apply below_drew1) | exact HB.out)); (case side2 => exact HR0.out); (case side3 => exact HC0.out); rintro e w8 ⟨g442, rfl, hi, hb, hb2⟩; refine ⟨_, rfl, ?_⟩; replace HB := Aside0.mk (hb); have HI442 := Aside0.mk (hi); (try clear hb)) | ((with_reducible refine gate_callee (f := 62) rfl ?_); refine gL (some 9) Try.func62 #[.pointer (some ⟨g442, 0, none⟩), .int .i64 4] ?_; (with_reducible refine (spec_l01Below.calls g442 t439 t440 t441 4 t443 t444 t445 w _ ?side1 ?side2 A3.out).mono ?_); (case side1 => repeat (first | (with_reducible first | exact HI442.out | apply IsS89.alloc | apply IsS89.drewN | apply IsS89.drew | apply IsS89.set_1 | apply IsS89.set_2) | exact HI442.out)); (case side2 => repeat (first | (with_reducible first | exact HB.out | apply below_alloc | apply pw_below_drewN | apply below_drew1 | refine below_set ?_ (IsS89.ge HI442.out)) | exact HB.out)); rintro e w9 ⟨rfl, hi, hb, hk⟩; refine ⟨_, rfl, ?_⟩; replace HB := Aside0.mk (hb); replace HI442 := Aside0.mk (hi); (try clear hb)) | ((with_reducible refine gate_callee (f := 90) rfl ?_); refine gL (some 11) Try.func90 #[.pointer (some ⟨g442, 0, none⟩)] ?_; (with_reducible refine (spec_l07Any.calls k g442 t439 t444 t445 t446 t447 t448 t449 t450 w _ ?side1 ?side2 A4.out).mono ?_); (case side1 => repeat (first | (with_reducible first | exact HI442.out | apply IsS89.alloc | apply IsS89.drewN | apply IsS89.drew | apply IsS89.set_1 | apply IsS89.set_2) | exact HI442.out)); (case side2 => repeat (first | (with_reducible first | exact HB.out | apply below_alloc | apply pw_below_drewN | apply below_drew1 | refine below_set ?_ (IsS89.ge HI442.out)) | exact HB.out)); rintro e w10 ⟨rfl, hi, hb, hk⟩; refine ⟨_, rfl, ?_⟩; replace HB := Aside0.mk (hb); replace HI442 := Aside0.mk (hi); (try clear hb)) | ((with_reducible refine gate_callee (f := 89) rfl ?_); refine gL (some 12) Try.func89 #[.agg #[.int .i64 t446, .int .i64 t447, .bool t448]] ?_; (with_reducible refine (spec_PointText.calls t446 t447 t448 t451 _ A5.out).mono ?_); rintro e w11 ⟨rfl, hb⟩; refine ⟨_, rfl, ?_⟩; replace HB := Aside0.mk (below_step (by repeat (first | (with_reducible first | exact HB.out | apply below_alloc | apply pw_below_drewN | apply below_drew1 | refine below_set ?_ (IsS89.ge HI442.out)) | exact HB.out)) hb); replace HI442 := Aside0.mk (IsS89.below (by repeat (first | (with_reducible first | exact HI442.out | apply IsS89.alloc | apply IsS89.drewN | apply IsS89.drew | apply IsS89.set_1 | apply IsS89.set_2) | exact HI442.out)) hb); (try clear hb)) | ((with_reducible refine gate_callee (f := 91) rfl ?_); refine gL (some 17) Try.func91 #[.pointer (some ⟨g442, 0, none⟩), .int .i64 3] ?_; (with_reducible refine (spec_l01Text.calls k g442 t439 t449 t450 3 t452 t453 t454 w _ ?side1 ?side2 A7.out).mono ?_); (case side1 => repeat (first | (with_reducible first | exact HI442.out | apply IsS89.alloc | apply IsS89.drewN | apply IsS89.drew | apply IsS89.set_1 | apply IsS89.set_2) | exact HI442.out)); (case side2 => repeat (first | (with_reducible first | exact HB.out | apply below_alloc | apply pw_below_drewN | apply below_drew1 | refine below_set ?_ (IsS89.ge HI442.out)) | exact HB.out)); rintro e w12 ⟨rfl, hi, hb, hk⟩; refine ⟨_, rfl, ?_⟩; replace HB := Aside0.mk (hb); replace HI442 := Aside0.mk (hi); (try clear hb)))
  go_ret
  exact ⟨by first | rfl | (simp [errW_none, errW_some] <;> rfl) | (simp [*, errW_none, errW_some] <;> rfl), by repeat (first | (with_reducible first | exact HB.out | apply below_alloc | apply pw_below_drewN | apply below_drew1 | refine below_set ?_ (IsS89.ge HI442.out)) | exact HB.out)⟩
 ·rw [if_neg c6] at H
  have c6b0 : (t443 == 0) = false := beq_eq_false_iff_ne.mpr c6
  have c6b1 : (t443 != 0) = true := bne_iff_ne.mpr c6
  by_cases c13 : t443 = 1
  ·rw [if_pos c13] at H
   have c13b0 : (t443 == 1) = true := beq_iff_eq.mpr c13
   have c13b1 : (t443 != 1) = false := bne_eq_false_iff_eq.mpr c13
   clear c13
   by_cases c14 : t451.size + 1 ≤ 9223372036854775807
   ·rw [if_pos c14] at H
    have c14b0 := eq_true c14
    have c14b1 : decide (t451.size + 1 ≤ 9223372036854775807) = true := decide_eq_true c14
    try have c14b2 : (9223372036854775807 < t451.size + 1) = False := eq_false (Nat.not_lt.2 c14)
    try simp only [ByteArray.size_append] at c14b2
    obtain rfl := Option.some.inj H
    go_enter Try.func45, Try.ntmps45
    go_wp2_with (first | ((with_reducible refine gate_callee (f := 59) rfl ?_); refine gL (some 7) Try.func59 #[.slice A0 l0.length c0] ?_; (with_reducible refine (spec_l01New.calls k _ _ l0 t439 t440 t441 w _ ?side1 ?side2 ?side3 A2.out).mono ?_); (case side1 => repeat (first | (with_reducible first | exact HB.out | apply below_alloc | apply pw_below_drewN | apply below_drew1) | exact HB.out)); (case side2 => exact HR0.out); (case side3 => exact HC0.out); rintro e w15 ⟨g442, rfl, hi, hb, hb2⟩; refine ⟨_, rfl, ?_⟩; replace HB := Aside0.mk (hb); have HI442 := Aside0.mk (hi); (try clear hb)) | ((with_reducible refine gate_callee (f := 62) rfl ?_); refine gL (some 9) Try.func62 #[.pointer (some ⟨g442, 0, none⟩), .int .i64 4] ?_; (with_reducible refine (spec_l01Below.calls g442 t439 t440 t441 4 t443 t444 t445 w _ ?side1 ?side2 A3.out).mono ?_); (case side1 => repeat (first | (with_reducible first | exact HI442.out | apply IsS89.alloc | apply IsS89.drewN | apply IsS89.drew | apply IsS89.set_1 | apply IsS89.set_2) | exact HI442.out)); (case side2 => repeat (first | (with_reducible first | exact HB.out | apply below_alloc | apply pw_below_drewN | apply below_drew1 | refine below_set ?_ (IsS89.ge HI442.out)) | exact HB.out)); rintro e w16 ⟨rfl, hi, hb, hk⟩; refine ⟨_, rfl, ?_⟩; replace HB := Aside0.mk (hb); replace HI442 := Aside0.mk (hi); (try clear hb)) | ((with_reducible refine gate_callee (f := 90) rfl ?_); refine gL (some 11) Try.func90 #[.pointer (some ⟨g442, 0, none⟩)] ?_; (with_reducible refine (spec_l07Any.calls k g442 t439 t444 t445 t446 t447 t448 t449 t450 w _ ?side1 ?side2 A4.out).mono ?_); (case side1 => repeat (first | (with_reducible first | exact HI442.out | apply IsS89.alloc | apply IsS89.drewN | apply IsS89.drew | apply IsS89.set_1 | apply IsS89.set_2) | exact HI442.out)); (case side2 => repeat (first | (with_reducible first | exact HB.out | apply below_alloc | apply pw_below_drewN | apply below_drew1 | refine below_set ?_ (IsS89.ge HI442.out)) | exact HB.out)); rintro e w17 ⟨rfl, hi, hb, hk⟩; refine ⟨_, rfl, ?_⟩; replace HB := Aside0.mk (hb); replace HI442 := Aside0.mk (hi); (try clear hb)) | ((with_reducible refine gate_callee (f := 89) rfl ?_); refine gL (some 12) Try.func89 #[.agg #[.int .i64 t446, .int .i64 t447, .bool t448]] ?_; (with_reducible refine (spec_PointText.calls t446 t447 t448 t451 _ A5.out).mono ?_); rintro e w18 ⟨rfl, hb⟩; refine ⟨_, rfl, ?_⟩; replace HB := Aside0.mk (below_step (by repeat (first | (with_reducible first | exact HB.out | apply below_alloc | apply pw_below_drewN | apply below_drew1 | refine below_set ?_ (IsS89.ge HI442.out)) | exact HB.out)) hb); replace HI442 := Aside0.mk (IsS89.below (by repeat (first | (with_reducible first | exact HI442.out | apply IsS89.alloc | apply IsS89.drewN | apply IsS89.drew | apply IsS89.set_1 | apply IsS89.set_2) | exact HI442.out)) hb); (try clear hb)))
    go_ret
    exact ⟨by first | rfl | (simp [errW_none, errW_some] <;> rfl) | (simp [*, errW_none, errW_some] <;> rfl), by repeat (first | (with_reducible first | exact HB.out | apply below_alloc | apply pw_below_drewN | apply below_drew1 | refine below_set ?_ (IsS89.ge HI442.out)) | exact HB.out)⟩
   ·rw [if_neg c14] at H
    exact absurd H (by simp)
  ·rw [if_neg c13] at H
   have c13b0 : (t443 == 1) = false := beq_eq_false_iff_ne.mpr c13
   have c13b1 : (t443 != 1) = true := bne_iff_ne.mpr c13
   by_cases c19 : t443 = 2
   ·rw [if_pos c19] at H
    have c19b0 : (t443 == 2) = true := beq_iff_eq.mpr c19
    have c19b1 : (t443 != 2) = false := bne_eq_false_iff_eq.mpr c19
    clear c19
    replace H := Option.bind_eq_some_iff.mp H
    obtain ⟨⟨t455, t456, t457⟩, A200, H⟩ := H
    have A20 := Aside0.mk A200
    clear A200
    obtain rfl := Option.some.inj H
    go_enter Try.func45, Try.ntmps45
    go_wp2_with (first | ((with_reducible refine gate_callee (f := 59) rfl ?_); refine gL (some 7) Try.func59 #[.slice A0 l0.length c0] ?_; (with_reducible refine (spec_l01New.calls k _ _ l0 t439 t440 t441 w _ ?side1 ?side2 ?side3 A2.out).mono ?_); (case side1 => repeat (first | (with_reducible first | exact HB.out | apply below_alloc | apply pw_below_drewN | apply below_drew1) | exact HB.out)); (case side2 => exact HR0.out); (case side3 => exact HC0.out); rintro e w21 ⟨g442, rfl, hi, hb, hb2⟩; refine ⟨_, rfl, ?_⟩; replace HB := Aside0.mk (hb); have HI442 := Aside0.mk (hi); (try clear hb)) | ((with_reducible refine gate_callee (f := 62) rfl ?_); refine gL (some 9) Try.func62 #[.pointer (some ⟨g442, 0, none⟩), .int .i64 4] ?_; (with_reducible refine (spec_l01Below.calls g442 t439 t440 t441 4 t443 t444 t445 w _ ?side1 ?side2 A3.out).mono ?_); (case side1 => repeat (first | (with_reducible first | exact HI442.out | apply IsS89.alloc | apply IsS89.drewN | apply IsS89.drew | apply IsS89.set_1 | apply IsS89.set_2) | exact HI442.out)); (case side2 => repeat (first | (with_reducible first | exact HB.out | apply below_alloc | apply pw_below_drewN | apply below_drew1 | refine below_set ?_ (IsS89.ge HI442.out)) | exact HB.out)); rintro e w22 ⟨rfl, hi, hb, hk⟩; refine ⟨_, rfl, ?_⟩; replace HB := Aside0.mk (hb); replace HI442 := Aside0.mk (hi); (try clear hb)) | ((with_reducible refine gate_callee (f := 90) rfl ?_); refine gL (some 11) Try.func90 #[.pointer (some ⟨g442, 0, none⟩)] ?_; (with_reducible refine (spec_l07Any.calls k g442 t439 t444 t445 t446 t447 t448 t449 t450 w _ ?side1 ?side2 A4.out).mono ?_); (case side1 => repeat (first | (with_reducible first | exact HI442.out | apply IsS89.alloc | apply IsS89.drewN | apply IsS89.drew | apply IsS89.set_1 | apply IsS89.set_2) | exact HI442.out)); (case side2 => repeat (first | (with_reducible first | exact HB.out | apply below_alloc | apply pw_below_drewN | apply below_drew1 | refine below_set ?_ (IsS89.ge HI442.out)) | exact HB.out)); rintro e w23 ⟨rfl, hi, hb, hk⟩; refine ⟨_, rfl, ?_⟩; replace HB := Aside0.mk (hb); replace HI442 := Aside0.mk (hi); (try clear hb)) | ((with_reducible refine gate_callee (f := 89) rfl ?_); refine gL (some 12) Try.func89 #[.agg #[.int .i64 t446, .int .i64 t447, .bool t448]] ?_; (with_reducible refine (spec_PointText.calls t446 t447 t448 t451 _ A5.out).mono ?_); rintro e w24 ⟨rfl, hb⟩; refine ⟨_, rfl, ?_⟩; replace HB := Aside0.mk (below_step (by repeat (first | (with_reducible first | exact HB.out | apply below_alloc | apply pw_below_drewN | apply below_drew1 | refine below_set ?_ (IsS89.ge HI442.out)) | exact HB.out)) hb); replace HI442 := Aside0.mk (IsS89.below (by repeat (first | (with_reducible first | exact HI442.out | apply IsS89.alloc | apply IsS89.drewN | apply IsS89.drew | apply IsS89.set_1 | apply IsS89.set_2) | exact HI442.out)) hb); (try clear hb)) | ((with_reducible refine gate_callee (f := 92) rfl ?_); refine gL (some 26) Try.func92 #[.pointer (some ⟨g442, 0, none⟩), .string t451] ?_; (with_reducible refine (spec_l02Spoilt.calls k g442 t439 t449 t450 t451 t455 t456 t457 w _ ?side1 ?side2 A20.out).mono ?_); (case side1 => repeat (first | (with_reducible first | exact HI442.out | apply IsS89.alloc | apply IsS89.drewN | apply IsS89.drew | apply IsS89.set_1 | apply IsS89.set_2) | exact HI442.out)); (case side2 => repeat (first | (with_reducible first | exact HB.out | apply below_alloc | apply pw_below_drewN | apply below_drew1 | refine below_set ?_ (IsS89.ge HI442.out)) | exact HB.out)); rintro e w25 ⟨rfl, hi, hb, hk⟩; refine ⟨_, rfl, ?_⟩; replace HB := Aside0.mk (hb); replace HI442 := Aside0.mk (hi); (try clear hb)))
    go_ret
    exact ⟨by first | rfl | (simp [errW_none, errW_some] <;> rfl) | (simp [*, errW_none, errW_some] <;> rfl), by repeat (first | (with_reducible first | exact HB.out | apply below_alloc | apply pw_below_drewN | apply below_drew1 | refine below_set ?_ (IsS89.ge HI442.out)) | exact HB.out)⟩
   ·rw [if_neg c19] at H
    have c19b0 : (t443 == 2) = false := beq_eq_false_iff_ne.mpr c19
    have c19b1 : (t443 != 2) = true := bne_iff_ne.mpr c19
    obtain rfl := Option.some.inj H
    go_enter Try.func45, Try.ntmps45
    go_wp2_with (first | ((with_reducible refine gate_callee (f := 59) rfl ?_); refine gL (some 7) Try.func59 #[.slice A0 l0.length c0] ?_; (with_reducible refine (spec_l01New.calls k _ _ l0 t439 t440 t441 w _ ?side1 ?side2 ?side3 A2.out).mono ?_); (case side1 => repeat (first | (with_reducible first | exact HB.out | apply below_alloc | apply pw_below_drewN | apply below_drew1) | exact HB.out)); (case side2 => exact HR0.out); (case side3 => exact HC0.out); rintro e w26 ⟨g442, rfl, hi, hb, hb2⟩; refine ⟨_, rfl, ?_⟩; replace HB := Aside0.mk (hb); have HI442 := Aside0.mk (hi); (try clear hb)) | ((with_reducible refine gate_callee (f := 62) rfl ?_); refine gL (some 9) Try.func62 #[.pointer (some ⟨g442, 0, none⟩), .int .i64 4] ?_; (with_reducible refine (spec_l01Below.calls g442 t439 t440 t441 4 t443 t444 t445 w _ ?side1 ?side2 A3.out).mono ?_); (case side1 => repeat (first | (with_reducible first | exact HI442.out | apply IsS89.alloc | apply IsS89.drewN | apply IsS89.drew | apply IsS89.set_1 | apply IsS89.set_2) | exact HI442.out)); (case side2 => repeat (first | (with_reducible first | exact HB.out | apply below_alloc | apply pw_below_drewN | apply below_drew1 | refine below_set ?_ (IsS89.ge HI442.out)) | exact HB.out)); rintro e w27 ⟨rfl, hi, hb, hk⟩; refine ⟨_, rfl, ?_⟩; replace HB := Aside0.mk (hb); replace HI442 := Aside0.mk (hi); (try clear hb)) | ((with_reducible refine gate_callee (f := 90) rfl ?_); refine gL (some 11) Try.func90 #[.pointer (some ⟨g442, 0, none⟩)] ?_; (with_reducible refine (spec_l07Any.calls k g442 t439 t444 t445 t446 t447 t448 t449 t450 w _ ?side1 ?side2 A4.out).mono ?_); (case side1 => repeat (first | (with_reducible first | exact HI442.out | apply IsS89.alloc | apply IsS89.drewN | apply IsS89.drew | apply IsS89.set_1 | apply IsS89.set_2) | exact HI442.out)); (case side2 => repeat (first | (with_reducible first | exact HB.out | apply below_alloc | apply pw_below_drewN | apply below_drew1 | refine below_set ?_ (IsS89.ge HI442.out)) | exact HB.out)); rintro e w28 ⟨rfl, hi, hb, hk⟩; refine ⟨_, rfl, ?_⟩; replace HB := Aside0.mk (hb); replace HI442 := Aside0.mk (hi); (try clear hb)) | ((with_reducible refine gate_callee (f := 89) rfl ?_); refine gL (some 12) Try.func89 #[.agg #[.int .i64 t446, .int .i64 t447, .bool t448]] ?_; (with_reducible refine (spec_PointText.calls t446 t447 t448 t451 _ A5.out).mono ?_); rintro e w29 ⟨rfl, hb⟩; refine ⟨_, rfl, ?_⟩; replace HB := Aside0.mk (below_step (by repeat (first | (with_reducible first | exact HB.out | apply below_alloc | apply pw_below_drewN | apply below_drew1 | refine below_set ?_ (IsS89.ge HI442.out)) | exact HB.out)) hb); replace HI442 := Aside0.mk (IsS89.below (by repeat (first | (with_reducible first | exact HI442.out | apply IsS89.alloc | apply IsS89.drewN | apply IsS89.drew | apply IsS89.set_1 | apply IsS89.set_2) | exact HI442.out)) hb); (try clear hb)))
    go_ret
    exact ⟨by first | rfl | (simp [errW_none, errW_some] <;> rfl) | (simp [*, errW_none, errW_some] <;> rfl), by repeat (first | (with_reducible first | exact HB.out | apply below_alloc | apply pw_below_drewN | apply below_drew1 | refine below_set ?_ (IsS89.ge HI442.out)) | exact HB.out)⟩
/-! ### spec_ReadPoint: function 46 -/
def spec_ReadPoint.j0 : Nat → ByteArray → Int → Bool → Option (Int × Int × Bool × Bool)
 | 0, _, _, _ => none
 | k + 1, x0, x4, x31 => if x31 = true then (some (0, 0, false, false)) else ((spec_l07Right.f x4).bind fun t463 => ((spec_FpRoot.f k t463).bind fun bt464 => (if bt464.2 = true then (if 2 < (x0.size : Int) then (if (Int.tmod bt464.1 2) = (wrap64 (bt x0 2)) then ((spec_PointText.f x4 bt464.1 false).bind fun t467 => (if t467.toList = x0.toList then (some (x4, bt464.1, false, true)) else (some (0, 0, false, false)))) else ((spec_FpSub.f 0 bt464.1).bind fun t468 => ((spec_PointText.f x4 t468 false).bind fun t470 => (if t470.toList = x0.toList then (some (x4, t468, false, true)) else (some (0, 0, false, false)))))) else (none)) else (some (0, 0, false, false)))))
def spec_ReadPoint.f (k : Nat) (a0 : ByteArray) : Option (Int × Int × Bool × Bool) := if (a0.size : Int) = 3 then (if a0.toList = ([0, 0, 0] : List UInt8) then ((spec_l07Zero.f).bind fun bt459 => (some (bt459.1, bt459.2.1, bt459.2.2, true))) else (if 0 < (a0.size : Int) then (if 1 < (a0.size : Int) then ((spec_FpOk.f (wrap64 ((wrap64 ((wrap64 ((wrap64 (bt a0 0)) * 256)) + (wrap64 (bt a0 1)))) - 1))).bind fun t462 => (if t462 = true then (if 2 < (a0.size : Int) then (spec_ReadPoint.j0 k a0 (wrap64 ((wrap64 ((wrap64 ((wrap64 (bt a0 0)) * 256)) + (wrap64 (bt a0 1)))) - 1)) (decide ((bt a0 2) > 1))) else (none)) else (spec_ReadPoint.j0 k a0 (wrap64 ((wrap64 ((wrap64 ((wrap64 (bt a0 0)) * 256)) + (wrap64 (bt a0 1)))) - 1)) true))) else (none)) else (none))) else (some (0, 0, false, false))
theorem spec_ReadPoint.mono_l : ∀ k, (∀ y0 y1 y2, LeO (spec_ReadPoint.j0 k y0 y1 y2) (spec_ReadPoint.j0 (k + 1) y0 y1 y2))
 | 0 => fun _ _ _ r h => by simp [spec_ReadPoint.j0] at h
 | k + 1 => by
  have ih0 := spec_ReadPoint.mono_l k
  ·intro y0 y1 y2
   unfold spec_ReadPoint.j0
   repeat' first
   | (with_reducible exact ih0 _ _ _)
   | (with_reducible exact spec_FpRoot.mono _ _)
   | (with_reducible exact LeO.refl _)
   | (with_reducible exact LeO.none _)
   | (with_reducible refine LeO.ite ?_ ?_)
   | (with_reducible refine LeO.bind ?_ (fun _ => ?_))
   | exact ih0 _ _ _
   | exact spec_FpRoot.mono _ _
   | exact LeO.none _
   | refine LeO.ite ?_ ?_
   | refine LeO.bind ?_ (fun _ => ?_)
theorem spec_ReadPoint.mono : ∀ a0 k, LeO (spec_ReadPoint.f k a0) (spec_ReadPoint.f (k + 1) a0) := by
 intro a0 k
 have ih0 := spec_ReadPoint.mono_l k
 unfold spec_ReadPoint.f
 repeat' first
   | (with_reducible exact ih0 _ _ _)
   | (with_reducible exact spec_FpRoot.mono _ _)
   | (with_reducible exact LeO.refl _)
   | (with_reducible exact LeO.none _)
   | (with_reducible refine LeO.ite ?_ ?_)
   | (with_reducible refine LeO.bind ?_ (fun _ => ?_))
   | exact ih0 _ _ _
   | exact spec_FpRoot.mono _ _
   | exact LeO.none _
   | refine LeO.ite ?_ ?_
   | refine LeO.bind ?_ (fun _ => ?_)
set_option maxHeartbeats 8000000 in
set_option maxRecDepth 100000 in
theorem spec_ReadPoint.calls (k : Nat) (a0 : ByteArray) (r1 : Int) (r2 : Int) (r3 : Bool) (r4 : Bool) (w : World) (h : spec_ReadPoint.f k a0 = some (r1, r2, r3, r4)) :
  Calls Try.prog 46 #[.string a0] w fun e w' => e = .returned (.tuple #[.agg #[.int .i64 r1, .int .i64 r2, .bool r3], .bool r4]) ∧ Below w.heap.size w w' := by
 have hu25 := Try.underlying25
 have HB := Aside0.mk (Below.refl w.heap.size w)
 have H : (if (a0.size : Int) = 3 then (if a0.toList = ([0, 0, 0] : List UInt8) then ((spec_l07Zero.f).bind fun bt459 => (some (bt459.1, bt459.2.1, bt459.2.2, true))) else (if 0 < (a0.size : Int) then (if 1 < (a0.size : Int) then ((spec_FpOk.f (wrap64 ((wrap64 ((wrap64 ((wrap64 (bt a0 0)) * 256)) + (wrap64 (bt a0 1)))) - 1))).bind fun t462 => (if t462 = true then (if 2 < (a0.size : Int) then (spec_ReadPoint.j0 k a0 (wrap64 ((wrap64 ((wrap64 ((wrap64 (bt a0 0)) * 256)) + (wrap64 (bt a0 1)))) - 1)) (decide ((bt a0 2) > 1))) else (none)) else (spec_ReadPoint.j0 k a0 (wrap64 ((wrap64 ((wrap64 ((wrap64 (bt a0 0)) * 256)) + (wrap64 (bt a0 1)))) - 1)) true))) else (none)) else (none))) else (some (0, 0, false, false))) = some (r1, r2, r3, r4) := h
 clear h
 by_cases c2 : (a0.size : Int) = 3
 ·rw [if_pos c2] at H
  have c2b0 : ((a0.size : Int) == 3) = true := beq_iff_eq.mpr c2
  have c2b1 : ((a0.size : Int) != 3) = false := bne_eq_false_iff_eq.mpr c2
  clear c2
  by_cases c3 : a0.toList = ([0, 0, 0] : List UInt8)
  ·rw [if_pos c3] at H
   have c3b0 : (a0.toList == ([0, 0, 0] : List UInt8)) = true := beq_iff_eq.mpr c3
   have c3b1 : (a0.toList != ([0, 0, 0] : List UInt8)) = false := bne_eq_false_iff_eq.mpr c3
   clear c3
   replace H := Option.bind_eq_some_iff.mp H
   obtain ⟨⟨t459, t460, t461⟩, A40, H⟩ := H
   have A4 := Aside0.mk A40
   clear A40
   simp only [Option.some.injEq, Prod.mk.injEq] at H
   obtain ⟨rfl, rfl, rfl, rfl⟩ := H
   go_enter Try.func46, Try.ntmps46
   go_wp2_with (first | ((with_reducible refine gate_dst (N := 2) rfl ?_); refine bE 2 #[.int .i64 0, .int .i64 0, .bool false] 25 ?_; intro gb458 hg w5 hbox hb; have BK458 := Aside0.mk (hbox); have GW458 := bG HB hg; have GE458 := bG HB hg; replace HB := bS HB hb; clear hb hbox hg) | (go_at_call 78; (with_reducible refine (spec_l07Zero.calls  t459 t460 t461 _ A4.out).mono ?_); rintro e w6 ⟨rfl, hb⟩; replace BK458 := bB BK458 hb; replace HB := bS HB hb; (try clear hb); obtain ⟨hcz7_0, hcz7_1, hcz7_2, hfz7_0, hfz7_1, hfz7_2⟩ := bK3 (w := w6) BK458))
   repeat (go_quiet (first | ((with_reducible refine gate_dst (N := 2) rfl ?_); refine bE 2 #[.int .i64 0, .int .i64 0, .bool false] 25 ?_; intro gb458 hg w5 hbox hb; have BK458 := Aside0.mk (hbox); have GW458 := bG HB hg; have GE458 := bG HB hg; replace HB := bS HB hb; clear hb hbox hg) | (go_at_call 78; (with_reducible refine (spec_l07Zero.calls  t459 t460 t461 _ A4.out).mono ?_); rintro e w6 ⟨rfl, hb⟩; replace BK458 := bB BK458 hb; replace HB := bS HB hb; (try clear hb); obtain ⟨hcz7_0, hcz7_1, hcz7_2, hfz7_0, hfz7_1, hfz7_2⟩ := bK3 (w := w6) BK458)); try go_wp2_with (first | ((with_reducible refine gate_dst (N := 2) rfl ?_); refine bE 2 #[.int .i64 0, .int .i64 0, .bool false] 25 ?_; intro gb458 hg w5 hbox hb; have BK458 := Aside0.mk (hbox); have GW458 := bG HB hg; have GE458 := bG HB hg; replace HB := bS HB hb; clear hb hbox hg) | (go_at_call 78; (with_reducible refine (spec_l07Zero.calls  t459 t460 t461 _ A4.out).mono ?_); rintro e w6 ⟨rfl, hb⟩; replace BK458 := bB BK458 hb; replace HB := bS HB hb; (try clear hb); obtain ⟨hcz7_0, hcz7_1, hcz7_2, hfz7_0, hfz7_1, hfz7_2⟩ := bK3 (w := w6) BK458)))
   refine bodyPost_ret (results_ct rfl _ _ gb458 25 #[.int .i64 t459, .int .i64 t460, .bool t461] (0, 0) _ rfl (bU BK458) Try.underlying25 rfl (by kernel_rfl)) rfl ?_
   exact ⟨rR, bZ HB⟩
  ·rw [if_neg c3] at H
   have c3b0 : (a0.toList == ([0, 0, 0] : List UInt8)) = false := beq_eq_false_iff_ne.mpr c3
   have c3b1 : (a0.toList != ([0, 0, 0] : List UInt8)) = true := bne_iff_ne.mpr c3
   by_cases c8 : 0 < (a0.size : Int)
   ·rw [if_pos c8] at H
    have c8b0 : decide (0 < (a0.size : Int)) = true := decide_eq_true c8
    have c8b1 : decide (0 < a0.size) = true := decide_eq_true (by omega)
    clear c8
    by_cases c10 : 1 < (a0.size : Int)
    ·rw [if_pos c10] at H
     have c10b0 : decide (1 < (a0.size : Int)) = true := decide_eq_true c10
     have c10b1 : decide (1 < a0.size) = true := decide_eq_true (by omega)
     clear c10
     have HC12 := Aside0.mk H
     clear H
     go_enter Try.func46, Try.ntmps46
     go_upto_region 6 with (first | ((with_reducible refine gate_dst (N := 2) rfl ?_); refine bE 2 #[.int .i64 0, .int .i64 0, .bool false] 25 ?_; intro gb458 hg w13 hbox hb; have BK458 := Aside0.mk (hbox); have GW458 := bG HB hg; have GE458 := bG HB hg; replace HB := bS HB hb; clear hb hbox hg; have p9 : 0 ≤ (0 : Int) := (by omega); have q9 : 0 < a0.size := (by have : (0 : Int) < (a0.size : Int) := of_decide_eq_true (by first | (with_reducible assumption) | assumption); omega); have hx9 : ∀ h : 0 < a0.size, ((a0[0]'h).toNat : Int) = bt a0 0 := bt_at a0 0; clear p9; have qi9 : (0 < (a0.size : Int)) = True := eq_true (of_decide_eq_true (by first | (with_reducible assumption) | assumption)); replace q9 := eq_true q9; have p11 : 0 ≤ (1 : Int) := (by omega); have q11 : 1 < a0.size := (by have : (1 : Int) < (a0.size : Int) := of_decide_eq_true (by first | (with_reducible assumption) | assumption); omega); have hx11 : ∀ h : 1 < a0.size, ((a0[1]'h).toNat : Int) = bt a0 1 := bt_at a0 1; clear p11; have qi11 : (1 < (a0.size : Int)) = True := eq_true (of_decide_eq_true (by first | (with_reducible assumption) | assumption)); replace q11 := eq_true q11))
     repeat (go_quiet (first | ((with_reducible refine gate_dst (N := 2) rfl ?_); refine bE 2 #[.int .i64 0, .int .i64 0, .bool false] 25 ?_; intro gb458 hg w13 hbox hb; have BK458 := Aside0.mk (hbox); have GW458 := bG HB hg; have GE458 := bG HB hg; replace HB := bS HB hb; clear hb hbox hg; have p9 : 0 ≤ (0 : Int) := (by omega); have q9 : 0 < a0.size := (by have : (0 : Int) < (a0.size : Int) := of_decide_eq_true (by first | (with_reducible assumption) | assumption); omega); have hx9 : ∀ h : 0 < a0.size, ((a0[0]'h).toNat : Int) = bt a0 0 := bt_at a0 0; clear p9; have qi9 : (0 < (a0.size : Int)) = True := eq_true (of_decide_eq_true (by first | (with_reducible assumption) | assumption)); replace q9 := eq_true q9; have p11 : 0 ≤ (1 : Int) := (by omega); have q11 : 1 < a0.size := (by have : (1 : Int) < (a0.size : Int) := of_decide_eq_true (by first | (with_reducible assumption) | assumption); omega); have hx11 : ∀ h : 1 < a0.size, ((a0[1]'h).toNat : Int) = bt a0 1 := bt_at a0 1; clear p11; have qi11 : (1 < (a0.size : Int)) = True := eq_true (of_decide_eq_true (by first | (with_reducible assumption) | assumption)); replace q11 := eq_true q11)); go_upto_region 6 with (first | ((with_reducible refine gate_dst (N := 2) rfl ?_); refine bE 2 #[.int .i64 0, .int .i64 0, .bool false] 25 ?_; intro gb458 hg w13 hbox hb; have BK458 := Aside0.mk (hbox); have GW458 := bG HB hg; have GE458 := bG HB hg; replace HB := bS HB hb; clear hb hbox hg; have p9 : 0 ≤ (0 : Int) := (by omega); have q9 : 0 < a0.size := (by have : (0 : Int) < (a0.size : Int) := of_decide_eq_true (by first | (with_reducible assumption) | assumption); omega); have hx9 : ∀ h : 0 < a0.size, ((a0[0]'h).toNat : Int) = bt a0 0 := bt_at a0 0; clear p9; have qi9 : (0 < (a0.size : Int)) = True := eq_true (of_decide_eq_true (by first | (with_reducible assumption) | assumption)); replace q9 := eq_true q9; have p11 : 0 ≤ (1 : Int) := (by omega); have q11 : 1 < a0.size := (by have : (1 : Int) < (a0.size : Int) := of_decide_eq_true (by first | (with_reducible assumption) | assumption); omega); have hx11 : ∀ h : 1 < a0.size, ((a0[1]'h).toNat : Int) = bt a0 1 := bt_at a0 1; clear p11; have qi11 : (1 < (a0.size : Int)) = True := eq_true (of_decide_eq_true (by first | (with_reducible assumption) | assumption)); replace q11 := eq_true q11)))
     (try simp only [Act.put, List.setIfInBounds_toArray, List.set_cons_zero, List.set_cons_succ])
     go_cut [31] (fun v31 wc => ∃ (kq : Nat) (x31_11 : Bool), v31 = .bool x31_11 ∧ Aside0 (spec_ReadPoint.j0 kq a0 (wrap64 ((wrap64 ((wrap64 ((wrap64 (bt a0 0)) * 256)) + (wrap64 (bt a0 1)))) - 1)) x31_11 = some (r1, r2, r3, r4)) ∧ Aside0 (kq ≤ k) ∧ Aside0 (wc.heap[gb458]? = some (.cells #[.int .i64 0, .int .i64 0, .bool false] 25 (0, 0))) ∧ Aside0 (Below w.heap.size w wc))
     case first =>
      have H := HC12.out
      clear HC12
      replace H := Option.bind_eq_some_iff.mp H
      obtain ⟨t462, A140, H⟩ := H
      have A14 := Aside0.mk A140
      clear A140
      by_cases c15 : t462 = true
      ·subst c15
       rw [if_pos rfl] at H
       by_cases c16 : 2 < (a0.size : Int)
       ·rw [if_pos c16] at H
        have c16b0 : decide (2 < (a0.size : Int)) = true := decide_eq_true c16
        have c16b1 : decide (2 < a0.size) = true := decide_eq_true (by omega)
        clear c16
        (first | rw [c16b0] | (simp only [i64_w, i32_w]; rw [c16b0]) | rw [c16b1] | skip)
        have H' := Aside0.mk H
        clear H
        go_wp2_with (first | (go_at_call 93; (with_reducible refine (spec_FpOk.calls (wrap64 ((wrap64 ((wrap64 ((wrap64 (bt a0 0)) * 256)) + (wrap64 (bt a0 1)))) - 1)) true _ A14.out).mono ?_); rintro e w' ⟨rfl, ⟨nd, rfl⟩⟩; (try exact tD); have p17 : 0 ≤ (2 : Int) := (by omega); have q17 : 2 < a0.size := (by have : (2 : Int) < (a0.size : Int) := of_decide_eq_true (by first | (with_reducible assumption) | assumption); omega); have hx17 : ∀ h : 2 < a0.size, ((a0[2]'h).toNat : Int) = bt a0 2 := bt_at a0 2; clear p17; have qi17 : (2 < (a0.size : Int)) = True := eq_true (of_decide_eq_true (by first | (with_reducible assumption) | assumption)); replace q17 := eq_true q17))
        repeat (go_quiet (first | (go_at_call 93; (with_reducible refine (spec_FpOk.calls (wrap64 ((wrap64 ((wrap64 ((wrap64 (bt a0 0)) * 256)) + (wrap64 (bt a0 1)))) - 1)) true _ A14.out).mono ?_); rintro e w' ⟨rfl, ⟨nd, rfl⟩⟩; (try exact tD); have p17 : 0 ≤ (2 : Int) := (by omega); have q17 : 2 < a0.size := (by have : (2 : Int) < (a0.size : Int) := of_decide_eq_true (by first | (with_reducible assumption) | assumption); omega); have hx17 : ∀ h : 2 < a0.size, ((a0[2]'h).toNat : Int) = bt a0 2 := bt_at a0 2; clear p17; have qi17 : (2 < (a0.size : Int)) = True := eq_true (of_decide_eq_true (by first | (with_reducible assumption) | assumption)); replace q17 := eq_true q17)); try go_wp2_with (first | (go_at_call 93; (with_reducible refine (spec_FpOk.calls (wrap64 ((wrap64 ((wrap64 ((wrap64 (bt a0 0)) * 256)) + (wrap64 (bt a0 1)))) - 1)) true _ A14.out).mono ?_); rintro e w' ⟨rfl, ⟨nd, rfl⟩⟩; (try exact tD); have p17 : 0 ≤ (2 : Int) := (by omega); have q17 : 2 < a0.size := (by have : (2 : Int) < (a0.size : Int) := of_decide_eq_true (by first | (with_reducible assumption) | assumption); omega); have hx17 : ∀ h : 2 < a0.size, ((a0[2]'h).toNat : Int) = bt a0 2 := bt_at a0 2; clear p17; have qi17 : (2 < (a0.size : Int)) = True := eq_true (of_decide_eq_true (by first | (with_reducible assumption) | assumption)); replace q17 := eq_true q17)))
        go_meet
        case rel => exact ⟨_, (decide ((bt a0 2) > 1)), rS, H', ⟨by first | omega | exact Nat.le_refl _⟩, ⟨bP BK458⟩, ⟨bZ HB⟩⟩
       ·rw [if_neg c16] at H
        exact absurd H (by simp)
      ·replace c15 := Bool.eq_false_iff.mpr c15
       subst c15
       rw [if_neg (show ¬ (false = true) by decide)] at H
       have H' := Aside0.mk H
       clear H
       go_wp2_with (first | (go_at_call 93; (with_reducible refine (spec_FpOk.calls (wrap64 ((wrap64 ((wrap64 ((wrap64 (bt a0 0)) * 256)) + (wrap64 (bt a0 1)))) - 1)) false _ A14.out).mono ?_); rintro e w' ⟨rfl, ⟨nd, rfl⟩⟩; (try exact tD)))
       repeat (go_quiet (first | (go_at_call 93; (with_reducible refine (spec_FpOk.calls (wrap64 ((wrap64 ((wrap64 ((wrap64 (bt a0 0)) * 256)) + (wrap64 (bt a0 1)))) - 1)) false _ A14.out).mono ?_); rintro e w' ⟨rfl, ⟨nd, rfl⟩⟩; (try exact tD))); try go_wp2_with (first | (go_at_call 93; (with_reducible refine (spec_FpOk.calls (wrap64 ((wrap64 ((wrap64 ((wrap64 (bt a0 0)) * 256)) + (wrap64 (bt a0 1)))) - 1)) false _ A14.out).mono ?_); rintro e w' ⟨rfl, ⟨nd, rfl⟩⟩; (try exact tD))))
       go_meet
       case rel => exact ⟨_, (true), rS, H', ⟨by first | omega | exact Nat.le_refl _⟩, ⟨bP BK458⟩, ⟨bZ HB⟩⟩
     case rest =>
      clear HC12
      try clear c1
      try clear p1
      try clear q1
      try clear hx1
      try clear qi1
      try clear c2
      try clear c2b0
      try clear c2b1
      try clear p2
      try clear c3
      try clear c3b0
      try clear c3b1
      try clear c4
      try clear p6
      try clear c8
      try clear c8b0
      try clear c8b1
      try clear p9
      try clear q9
      try clear hx9
      try clear qi9
      try clear c10
      try clear c10b0
      try clear c10b1
      try clear p11
      try clear q11
      try clear hx11
      try clear qi11
      try clear c15
      try clear c16
      try clear c16b0
      try clear c16b1
      try clear p17
      try clear q17
      try clear hx17
      try clear qi17
      try clear hcz7_0
      try clear hcz7_1
      try clear hcz7_2
      try clear hfz7_0
      try clear hfz7_1
      try clear hfz7_2
      try clear p11
      try clear p17
      try clear p9
      try clear q11
      try clear q17
      try clear q9
      obtain ⟨kq, x31_11, rfl, HA, HJ11, BK458, HB⟩ := hcut
      cases kq with
      | zero => exact absurd HA.out (by simp [spec_ReadPoint.j0])
      | succ kj11 =>
       have H := HA.out
       clear HA
       simp only [spec_ReadPoint.j0] at H
       by_cases c18 : x31_11 = true
       ·subst c18
        rw [if_pos rfl] at H
        simp only [Option.some.injEq, Prod.mk.injEq] at H
        obtain ⟨rfl, rfl, rfl, rfl⟩ := H
        obtain ⟨hcz19_0, hcz19_1, hcz19_2, hfz19_0, hfz19_1, hfz19_2⟩ := bK3 (w := wc) BK458
        go_wp2
        repeat (go_quiet (fail); try go_wp2)
        refine bodyPost_ret (results_ct rfl _ _ gb458 25 #[.int .i64 0, .int .i64 0, .bool false] (0, 0) _ rfl (bU BK458) Try.underlying25 rfl (by kernel_rfl)) rfl ?_
        exact ⟨rR, bZ HB⟩
       ·replace c18 := Bool.eq_false_iff.mpr c18
        subst c18
        rw [if_neg (show ¬ (false = true) by decide)] at H
        replace H := Option.bind_eq_some_iff.mp H
        obtain ⟨t463, A200, H⟩ := H
        have A20 := Aside0.mk A200
        clear A200
        replace H := Option.bind_eq_some_iff.mp H
        obtain ⟨⟨t464, t465⟩, A210, H⟩ := H
        have A21 := Aside0.mk A210
        clear A210
        by_cases c22 : t465 = true
        ·subst c22
         rw [if_pos rfl] at H
         by_cases c23 : 2 < (a0.size : Int)
         ·rw [if_pos c23] at H
          have c23b0 : decide (2 < (a0.size : Int)) = true := decide_eq_true c23
          have c23b1 : decide (2 < a0.size) = true := decide_eq_true (by omega)
          clear c23
          by_cases c25 : (Int.tmod t464 2) = (wrap64 (bt a0 2))
          ·rw [if_pos c25] at H
           have c25b0 : ((Int.tmod t464 2) == (wrap64 (bt a0 2))) = true := beq_iff_eq.mpr c25
           have c25b1 : ((Int.tmod t464 2) != (wrap64 (bt a0 2))) = false := bne_eq_false_iff_eq.mpr c25
           clear c25
           replace H := Option.bind_eq_some_iff.mp H
           obtain ⟨t467, A260, H⟩ := H
           have A26 := Aside0.mk A260
           clear A260
           by_cases c27 : t467.toList = a0.toList
           ·rw [if_pos c27] at H
            have c27b0 : (t467.toList == a0.toList) = true := beq_iff_eq.mpr c27
            have c27b1 : (t467.toList != a0.toList) = false := bne_eq_false_iff_eq.mpr c27
            clear c27
            simp only [Option.some.injEq, Prod.mk.injEq] at H
            obtain ⟨rfl, rfl, rfl, rfl⟩ := H
            go_wp2_with (first | (go_at_call 95; (with_reducible refine (spec_l07Right.calls (wrap64 ((wrap64 ((wrap64 ((wrap64 (bt a0 0)) * 256)) + (wrap64 (bt a0 1)))) - 1)) t463 _ A20.out).mono ?_); rintro e w' ⟨rfl, ⟨nd, rfl⟩⟩; (try exact tD)) | (go_at_call 94; (with_reducible refine (spec_FpRoot.calls kj11 t463 t464 true _ A21.out).mono ?_); rintro e w' ⟨rfl, ⟨nd, rfl⟩⟩; (try exact tD); have p24 : 0 ≤ (2 : Int) := (by omega); have q24 : 2 < a0.size := (by have : (2 : Int) < (a0.size : Int) := of_decide_eq_true (by first | (with_reducible assumption) | assumption); omega); have hx24 : ∀ h : 2 < a0.size, ((a0[2]'h).toNat : Int) = bt a0 2 := bt_at a0 2; clear p24; have qi24 : (2 < (a0.size : Int)) = True := eq_true (of_decide_eq_true (by first | (with_reducible assumption) | assumption)); replace q24 := eq_true q24) | ((with_reducible refine gate_dst (N := 7) rfl ?_); refine bE 7 #[.int .i64 0, .int .i64 0, .bool false] 25 ?_; intro gb466 hg w28 hbox hb; have BK466 := Aside0.mk (hbox); have GW466 := bG HB hg; have GE466 := bG HB hg; replace HB := bS HB hb; have NB458_466 := bL BK458 hg; have NB466_458 := bR BK458 hg; replace BK458 := bB BK458 hb; clear hb hbox hg; obtain ⟨hnb29, hnc29⟩ := nB NB466_458; obtain ⟨hcz30_0, hcz30_1, hcz30_2, hfz30_0, hfz30_1, hfz30_2⟩ := bK3 (w := w28) BK466) | (go_at_call 89; (with_reducible refine (spec_PointText.calls (wrap64 ((wrap64 ((wrap64 ((wrap64 (bt a0 0)) * 256)) + (wrap64 (bt a0 1)))) - 1)) t464 false t467 _ A26.out).mono ?_); rintro e w31 ⟨rfl, hb⟩; replace BK458 := bB BK458 hb; replace BK466 := bV 25 #[.int .i64 (wrap64 ((wrap64 ((wrap64 ((wrap64 (bt a0 0)) * 256)) + (wrap64 (bt a0 1)))) - 1)), .int .i64 t464, .bool false] BK466 hb; replace HB := bS HB hb; (try clear hb); obtain ⟨hcz32_0, hcz32_1, hcz32_2, hfz32_0, hfz32_1, hfz32_2⟩ := bK3 (w := w31) BK466; obtain ⟨hcz33_0, hcz33_1, hcz33_2, hfz33_0, hfz33_1, hfz33_2⟩ := bK3 (w := w31) BK458))
            repeat (go_quiet (first | (go_at_call 95; (with_reducible refine (spec_l07Right.calls (wrap64 ((wrap64 ((wrap64 ((wrap64 (bt a0 0)) * 256)) + (wrap64 (bt a0 1)))) - 1)) t463 _ A20.out).mono ?_); rintro e w' ⟨rfl, ⟨nd, rfl⟩⟩; (try exact tD)) | (go_at_call 94; (with_reducible refine (spec_FpRoot.calls kj11 t463 t464 true _ A21.out).mono ?_); rintro e w' ⟨rfl, ⟨nd, rfl⟩⟩; (try exact tD); have p24 : 0 ≤ (2 : Int) := (by omega); have q24 : 2 < a0.size := (by have : (2 : Int) < (a0.size : Int) := of_decide_eq_true (by first | (with_reducible assumption) | assumption); omega); have hx24 : ∀ h : 2 < a0.size, ((a0[2]'h).toNat : Int) = bt a0 2 := bt_at a0 2; clear p24; have qi24 : (2 < (a0.size : Int)) = True := eq_true (of_decide_eq_true (by first | (with_reducible assumption) | assumption)); replace q24 := eq_true q24) | ((with_reducible refine gate_dst (N := 7) rfl ?_); refine bE 7 #[.int .i64 0, .int .i64 0, .bool false] 25 ?_; intro gb466 hg w28 hbox hb; have BK466 := Aside0.mk (hbox); have GW466 := bG HB hg; have GE466 := bG HB hg; replace HB := bS HB hb; have NB458_466 := bL BK458 hg; have NB466_458 := bR BK458 hg; replace BK458 := bB BK458 hb; clear hb hbox hg; obtain ⟨hnb29, hnc29⟩ := nB NB466_458; obtain ⟨hcz30_0, hcz30_1, hcz30_2, hfz30_0, hfz30_1, hfz30_2⟩ := bK3 (w := w28) BK466) | (go_at_call 89; (with_reducible refine (spec_PointText.calls (wrap64 ((wrap64 ((wrap64 ((wrap64 (bt a0 0)) * 256)) + (wrap64 (bt a0 1)))) - 1)) t464 false t467 _ A26.out).mono ?_); rintro e w31 ⟨rfl, hb⟩; replace BK458 := bB BK458 hb; replace BK466 := bV 25 #[.int .i64 (wrap64 ((wrap64 ((wrap64 ((wrap64 (bt a0 0)) * 256)) + (wrap64 (bt a0 1)))) - 1)), .int .i64 t464, .bool false] BK466 hb; replace HB := bS HB hb; (try clear hb); obtain ⟨hcz32_0, hcz32_1, hcz32_2, hfz32_0, hfz32_1, hfz32_2⟩ := bK3 (w := w31) BK466; obtain ⟨hcz33_0, hcz33_1, hcz33_2, hfz33_0, hfz33_1, hfz33_2⟩ := bK3 (w := w31) BK458)); try go_wp2_with (first | (go_at_call 95; (with_reducible refine (spec_l07Right.calls (wrap64 ((wrap64 ((wrap64 ((wrap64 (bt a0 0)) * 256)) + (wrap64 (bt a0 1)))) - 1)) t463 _ A20.out).mono ?_); rintro e w' ⟨rfl, ⟨nd, rfl⟩⟩; (try exact tD)) | (go_at_call 94; (with_reducible refine (spec_FpRoot.calls kj11 t463 t464 true _ A21.out).mono ?_); rintro e w' ⟨rfl, ⟨nd, rfl⟩⟩; (try exact tD); have p24 : 0 ≤ (2 : Int) := (by omega); have q24 : 2 < a0.size := (by have : (2 : Int) < (a0.size : Int) := of_decide_eq_true (by first | (with_reducible assumption) | assumption); omega); have hx24 : ∀ h : 2 < a0.size, ((a0[2]'h).toNat : Int) = bt a0 2 := bt_at a0 2; clear p24; have qi24 : (2 < (a0.size : Int)) = True := eq_true (of_decide_eq_true (by first | (with_reducible assumption) | assumption)); replace q24 := eq_true q24) | ((with_reducible refine gate_dst (N := 7) rfl ?_); refine bE 7 #[.int .i64 0, .int .i64 0, .bool false] 25 ?_; intro gb466 hg w28 hbox hb; have BK466 := Aside0.mk (hbox); have GW466 := bG HB hg; have GE466 := bG HB hg; replace HB := bS HB hb; have NB458_466 := bL BK458 hg; have NB466_458 := bR BK458 hg; replace BK458 := bB BK458 hb; clear hb hbox hg; obtain ⟨hnb29, hnc29⟩ := nB NB466_458; obtain ⟨hcz30_0, hcz30_1, hcz30_2, hfz30_0, hfz30_1, hfz30_2⟩ := bK3 (w := w28) BK466) | (go_at_call 89; (with_reducible refine (spec_PointText.calls (wrap64 ((wrap64 ((wrap64 ((wrap64 (bt a0 0)) * 256)) + (wrap64 (bt a0 1)))) - 1)) t464 false t467 _ A26.out).mono ?_); rintro e w31 ⟨rfl, hb⟩; replace BK458 := bB BK458 hb; replace BK466 := bV 25 #[.int .i64 (wrap64 ((wrap64 ((wrap64 ((wrap64 (bt a0 0)) * 256)) + (wrap64 (bt a0 1)))) - 1)), .int .i64 t464, .bool false] BK466 hb; replace HB := bS HB hb; (try clear hb); obtain ⟨hcz32_0, hcz32_1, hcz32_2, hfz32_0, hfz32_1, hfz32_2⟩ := bK3 (w := w31) BK466; obtain ⟨hcz33_0, hcz33_1, hcz33_2, hfz33_0, hfz33_1, hfz33_2⟩ := bK3 (w := w31) BK458)))
            refine bodyPost_ret (results_ct rfl _ _ gb458 25 #[.int .i64 (wrap64 ((wrap64 ((wrap64 ((wrap64 (bt a0 0)) * 256)) + (wrap64 (bt a0 1)))) - 1)), .int .i64 t464, .bool false] (0, 0) _ rfl (bU BK458) Try.underlying25 rfl (by kernel_rfl)) rfl ?_
            exact ⟨rR, bZ HB⟩
           ·rw [if_neg c27] at H
            have c27b0 : (t467.toList == a0.toList) = false := beq_eq_false_iff_ne.mpr c27
            have c27b1 : (t467.toList != a0.toList) = true := bne_iff_ne.mpr c27
            simp only [Option.some.injEq, Prod.mk.injEq] at H
            obtain ⟨rfl, rfl, rfl, rfl⟩ := H
            go_wp2_with (first | (go_at_call 95; (with_reducible refine (spec_l07Right.calls (wrap64 ((wrap64 ((wrap64 ((wrap64 (bt a0 0)) * 256)) + (wrap64 (bt a0 1)))) - 1)) t463 _ A20.out).mono ?_); rintro e w' ⟨rfl, ⟨nd, rfl⟩⟩; (try exact tD)) | (go_at_call 94; (with_reducible refine (spec_FpRoot.calls kj11 t463 t464 true _ A21.out).mono ?_); rintro e w' ⟨rfl, ⟨nd, rfl⟩⟩; (try exact tD); have p24 : 0 ≤ (2 : Int) := (by omega); have q24 : 2 < a0.size := (by have : (2 : Int) < (a0.size : Int) := of_decide_eq_true (by first | (with_reducible assumption) | assumption); omega); have hx24 : ∀ h : 2 < a0.size, ((a0[2]'h).toNat : Int) = bt a0 2 := bt_at a0 2; clear p24; have qi24 : (2 < (a0.size : Int)) = True := eq_true (of_decide_eq_true (by first | (with_reducible assumption) | assumption)); replace q24 := eq_true q24) | ((with_reducible refine gate_dst (N := 7) rfl ?_); refine bE 7 #[.int .i64 0, .int .i64 0, .bool false] 25 ?_; intro gb466 hg w34 hbox hb; have BK466 := Aside0.mk (hbox); have GW466 := bG HB hg; have GE466 := bG HB hg; replace HB := bS HB hb; have NB458_466 := bL BK458 hg; have NB466_458 := bR BK458 hg; replace BK458 := bB BK458 hb; clear hb hbox hg; obtain ⟨hnb35, hnc35⟩ := nB NB466_458; obtain ⟨hcz36_0, hcz36_1, hcz36_2, hfz36_0, hfz36_1, hfz36_2⟩ := bK3 (w := w34) BK466) | (go_at_call 89; (with_reducible refine (spec_PointText.calls (wrap64 ((wrap64 ((wrap64 ((wrap64 (bt a0 0)) * 256)) + (wrap64 (bt a0 1)))) - 1)) t464 false t467 _ A26.out).mono ?_); rintro e w37 ⟨rfl, hb⟩; replace BK458 := bB BK458 hb; replace BK466 := bV 25 #[.int .i64 (wrap64 ((wrap64 ((wrap64 ((wrap64 (bt a0 0)) * 256)) + (wrap64 (bt a0 1)))) - 1)), .int .i64 t464, .bool false] BK466 hb; replace HB := bS HB hb; (try clear hb); obtain ⟨hcz38_0, hcz38_1, hcz38_2, hfz38_0, hfz38_1, hfz38_2⟩ := bK3 (w := w37) BK458))
            repeat (go_quiet (first | (go_at_call 95; (with_reducible refine (spec_l07Right.calls (wrap64 ((wrap64 ((wrap64 ((wrap64 (bt a0 0)) * 256)) + (wrap64 (bt a0 1)))) - 1)) t463 _ A20.out).mono ?_); rintro e w' ⟨rfl, ⟨nd, rfl⟩⟩; (try exact tD)) | (go_at_call 94; (with_reducible refine (spec_FpRoot.calls kj11 t463 t464 true _ A21.out).mono ?_); rintro e w' ⟨rfl, ⟨nd, rfl⟩⟩; (try exact tD); have p24 : 0 ≤ (2 : Int) := (by omega); have q24 : 2 < a0.size := (by have : (2 : Int) < (a0.size : Int) := of_decide_eq_true (by first | (with_reducible assumption) | assumption); omega); have hx24 : ∀ h : 2 < a0.size, ((a0[2]'h).toNat : Int) = bt a0 2 := bt_at a0 2; clear p24; have qi24 : (2 < (a0.size : Int)) = True := eq_true (of_decide_eq_true (by first | (with_reducible assumption) | assumption)); replace q24 := eq_true q24) | ((with_reducible refine gate_dst (N := 7) rfl ?_); refine bE 7 #[.int .i64 0, .int .i64 0, .bool false] 25 ?_; intro gb466 hg w34 hbox hb; have BK466 := Aside0.mk (hbox); have GW466 := bG HB hg; have GE466 := bG HB hg; replace HB := bS HB hb; have NB458_466 := bL BK458 hg; have NB466_458 := bR BK458 hg; replace BK458 := bB BK458 hb; clear hb hbox hg; obtain ⟨hnb35, hnc35⟩ := nB NB466_458; obtain ⟨hcz36_0, hcz36_1, hcz36_2, hfz36_0, hfz36_1, hfz36_2⟩ := bK3 (w := w34) BK466) | (go_at_call 89; (with_reducible refine (spec_PointText.calls (wrap64 ((wrap64 ((wrap64 ((wrap64 (bt a0 0)) * 256)) + (wrap64 (bt a0 1)))) - 1)) t464 false t467 _ A26.out).mono ?_); rintro e w37 ⟨rfl, hb⟩; replace BK458 := bB BK458 hb; replace BK466 := bV 25 #[.int .i64 (wrap64 ((wrap64 ((wrap64 ((wrap64 (bt a0 0)) * 256)) + (wrap64 (bt a0 1)))) - 1)), .int .i64 t464, .bool false] BK466 hb; replace HB := bS HB hb; (try clear hb); obtain ⟨hcz38_0, hcz38_1, hcz38_2, hfz38_0, hfz38_1, hfz38_2⟩ := bK3 (w := w37) BK458)); try go_wp2_with (first | (go_at_call 95; (with_reducible refine (spec_l07Right.calls (wrap64 ((wrap64 ((wrap64 ((wrap64 (bt a0 0)) * 256)) + (wrap64 (bt a0 1)))) - 1)) t463 _ A20.out).mono ?_); rintro e w' ⟨rfl, ⟨nd, rfl⟩⟩; (try exact tD)) | (go_at_call 94; (with_reducible refine (spec_FpRoot.calls kj11 t463 t464 true _ A21.out).mono ?_); rintro e w' ⟨rfl, ⟨nd, rfl⟩⟩; (try exact tD); have p24 : 0 ≤ (2 : Int) := (by omega); have q24 : 2 < a0.size := (by have : (2 : Int) < (a0.size : Int) := of_decide_eq_true (by first | (with_reducible assumption) | assumption); omega); have hx24 : ∀ h : 2 < a0.size, ((a0[2]'h).toNat : Int) = bt a0 2 := bt_at a0 2; clear p24; have qi24 : (2 < (a0.size : Int)) = True := eq_true (of_decide_eq_true (by first | (with_reducible assumption) | assumption)); replace q24 := eq_true q24) | ((with_reducible refine gate_dst (N := 7) rfl ?_); refine bE 7 #[.int .i64 0, .int .i64 0, .bool false] 25 ?_; intro gb466 hg w34 hbox hb; have BK466 := Aside0.mk (hbox); have GW466 := bG HB hg; have GE466 := bG HB hg; replace HB := bS HB hb; have NB458_466 := bL BK458 hg; have NB466_458 := bR BK458 hg; replace BK458 := bB BK458 hb; clear hb hbox hg; obtain ⟨hnb35, hnc35⟩ := nB NB466_458; obtain ⟨hcz36_0, hcz36_1, hcz36_2, hfz36_0, hfz36_1, hfz36_2⟩ := bK3 (w := w34) BK466) | (go_at_call 89; (with_reducible refine (spec_PointText.calls (wrap64 ((wrap64 ((wrap64 ((wrap64 (bt a0 0)) * 256)) + (wrap64 (bt a0 1)))) - 1)) t464 false t467 _ A26.out).mono ?_); rintro e w37 ⟨rfl, hb⟩; replace BK458 := bB BK458 hb; replace BK466 := bV 25 #[.int .i64 (wrap64 ((wrap64 ((wrap64 ((wrap64 (bt a0 0)) * 256)) + (wrap64 (bt a0 1)))) - 1)), .int .i64 t464, .bool false] BK466 hb; replace HB := bS HB hb; (try clear hb); obtain ⟨hcz38_0, hcz38_1, hcz38_2, hfz38_0, hfz38_1, hfz38_2⟩ := bK3 (w := w37) BK458)))
            refine bodyPost_ret (results_ct rfl _ _ gb458 25 #[.int .i64 0, .int .i64 0, .bool false] (0, 0) _ rfl (bU BK458) Try.underlying25 rfl (by kernel_rfl)) rfl ?_
            exact ⟨rR, bZ HB⟩
          ·rw [if_neg c25] at H
           have c25b0 : ((Int.tmod t464 2) == (wrap64 (bt a0 2))) = false := beq_eq_false_iff_ne.mpr c25
           have c25b1 : ((Int.tmod t464 2) != (wrap64 (bt a0 2))) = true := bne_iff_ne.mpr c25
           replace H := Option.bind_eq_some_iff.mp H
           obtain ⟨t468, A390, H⟩ := H
           have A39 := Aside0.mk A390
           clear A390
           replace H := Option.bind_eq_some_iff.mp H
           obtain ⟨t470, A400, H⟩ := H
           have A40 := Aside0.mk A400
           clear A400
           by_cases c41 : t470.toList = a0.toList
           ·rw [if_pos c41] at H
            have c41b0 : (t470.toList == a0.toList) = true := beq_iff_eq.mpr c41
            have c41b1 : (t470.toList != a0.toList) = false := bne_eq_false_iff_eq.mpr c41
            clear c41
            simp only [Option.some.injEq, Prod.mk.injEq] at H
            obtain ⟨rfl, rfl, rfl, rfl⟩ := H
            go_wp2_with (first | (go_at_call 95; (with_reducible refine (spec_l07Right.calls (wrap64 ((wrap64 ((wrap64 ((wrap64 (bt a0 0)) * 256)) + (wrap64 (bt a0 1)))) - 1)) t463 _ A20.out).mono ?_); rintro e w' ⟨rfl, ⟨nd, rfl⟩⟩; (try exact tD)) | (go_at_call 94; (with_reducible refine (spec_FpRoot.calls kj11 t463 t464 true _ A21.out).mono ?_); rintro e w' ⟨rfl, ⟨nd, rfl⟩⟩; (try exact tD); have p24 : 0 ≤ (2 : Int) := (by omega); have q24 : 2 < a0.size := (by have : (2 : Int) < (a0.size : Int) := of_decide_eq_true (by first | (with_reducible assumption) | assumption); omega); have hx24 : ∀ h : 2 < a0.size, ((a0[2]'h).toNat : Int) = bt a0 2 := bt_at a0 2; clear p24; have qi24 : (2 < (a0.size : Int)) = True := eq_true (of_decide_eq_true (by first | (with_reducible assumption) | assumption)); replace q24 := eq_true q24) | (go_at_call 75; (with_reducible refine (spec_FpSub.calls 0 t464 t468 _ A39.out).mono ?_); rintro e w' ⟨rfl, ⟨nd, rfl⟩⟩; (try exact tD)) | ((with_reducible refine gate_dst (N := 7) rfl ?_); refine bE 7 #[.int .i64 0, .int .i64 0, .bool false] 25 ?_; intro gb469 hg w42 hbox hb; have BK469 := Aside0.mk (hbox); have GW469 := bG HB hg; have GE469 := bG HB hg; replace HB := bS HB hb; have NB458_469 := bL BK458 hg; have NB469_458 := bR BK458 hg; replace BK458 := bB BK458 hb; clear hb hbox hg; obtain ⟨hnb43, hnc43⟩ := nB NB469_458; obtain ⟨hcz44_0, hcz44_1, hcz44_2, hfz44_0, hfz44_1, hfz44_2⟩ := bK3 (w := w42) BK469) | (go_at_call 89; (with_reducible refine (spec_PointText.calls (wrap64 ((wrap64 ((wrap64 ((wrap64 (bt a0 0)) * 256)) + (wrap64 (bt a0 1)))) - 1)) t468 false t470 _ A40.out).mono ?_); rintro e w45 ⟨rfl, hb⟩; replace BK458 := bB BK458 hb; replace BK469 := bV 25 #[.int .i64 (wrap64 ((wrap64 ((wrap64 ((wrap64 (bt a0 0)) * 256)) + (wrap64 (bt a0 1)))) - 1)), .int .i64 t468, .bool false] BK469 hb; replace HB := bS HB hb; (try clear hb); obtain ⟨hcz46_0, hcz46_1, hcz46_2, hfz46_0, hfz46_1, hfz46_2⟩ := bK3 (w := w45) BK469; obtain ⟨hcz47_0, hcz47_1, hcz47_2, hfz47_0, hfz47_1, hfz47_2⟩ := bK3 (w := w45) BK458))
            repeat (go_quiet (first | (go_at_call 95; (with_reducible refine (spec_l07Right.calls (wrap64 ((wrap64 ((wrap64 ((wrap64 (bt a0 0)) * 256)) + (wrap64 (bt a0 1)))) - 1)) t463 _ A20.out).mono ?_); rintro e w' ⟨rfl, ⟨nd, rfl⟩⟩; (try exact tD)) | (go_at_call 94; (with_reducible refine (spec_FpRoot.calls kj11 t463 t464 true _ A21.out).mono ?_); rintro e w' ⟨rfl, ⟨nd, rfl⟩⟩; (try exact tD); have p24 : 0 ≤ (2 : Int) := (by omega); have q24 : 2 < a0.size := (by have : (2 : Int) < (a0.size : Int) := of_decide_eq_true (by first | (with_reducible assumption) | assumption); omega); have hx24 : ∀ h : 2 < a0.size, ((a0[2]'h).toNat : Int) = bt a0 2 := bt_at a0 2; clear p24; have qi24 : (2 < (a0.size : Int)) = True := eq_true (of_decide_eq_true (by first | (with_reducible assumption) | assumption)); replace q24 := eq_true q24) | (go_at_call 75; (with_reducible refine (spec_FpSub.calls 0 t464 t468 _ A39.out).mono ?_); rintro e w' ⟨rfl, ⟨nd, rfl⟩⟩; (try exact tD)) | ((with_reducible refine gate_dst (N := 7) rfl ?_); refine bE 7 #[.int .i64 0, .int .i64 0, .bool false] 25 ?_; intro gb469 hg w42 hbox hb; have BK469 := Aside0.mk (hbox); have GW469 := bG HB hg; have GE469 := bG HB hg; replace HB := bS HB hb; have NB458_469 := bL BK458 hg; have NB469_458 := bR BK458 hg; replace BK458 := bB BK458 hb; clear hb hbox hg; obtain ⟨hnb43, hnc43⟩ := nB NB469_458; obtain ⟨hcz44_0, hcz44_1, hcz44_2, hfz44_0, hfz44_1, hfz44_2⟩ := bK3 (w := w42) BK469) | (go_at_call 89; (with_reducible refine (spec_PointText.calls (wrap64 ((wrap64 ((wrap64 ((wrap64 (bt a0 0)) * 256)) + (wrap64 (bt a0 1)))) - 1)) t468 false t470 _ A40.out).mono ?_); rintro e w45 ⟨rfl, hb⟩; replace BK458 := bB BK458 hb; replace BK469 := bV 25 #[.int .i64 (wrap64 ((wrap64 ((wrap64 ((wrap64 (bt a0 0)) * 256)) + (wrap64 (bt a0 1)))) - 1)), .int .i64 t468, .bool false] BK469 hb; replace HB := bS HB hb; (try clear hb); obtain ⟨hcz46_0, hcz46_1, hcz46_2, hfz46_0, hfz46_1, hfz46_2⟩ := bK3 (w := w45) BK469; obtain ⟨hcz47_0, hcz47_1, hcz47_2, hfz47_0, hfz47_1, hfz47_2⟩ := bK3 (w := w45) BK458)); try go_wp2_with (first | (go_at_call 95; (with_reducible refine (spec_l07Right.calls (wrap64 ((wrap64 ((wrap64 ((wrap64 (bt a0 0)) * 256)) + (wrap64 (bt a0 1)))) - 1)) t463 _ A20.out).mono ?_); rintro e w' ⟨rfl, ⟨nd, rfl⟩⟩; (try exact tD)) | (go_at_call 94; (with_reducible refine (spec_FpRoot.calls kj11 t463 t464 true _ A21.out).mono ?_); rintro e w' ⟨rfl, ⟨nd, rfl⟩⟩; (try exact tD); have p24 : 0 ≤ (2 : Int) := (by omega); have q24 : 2 < a0.size := (by have : (2 : Int) < (a0.size : Int) := of_decide_eq_true (by first | (with_reducible assumption) | assumption); omega); have hx24 : ∀ h : 2 < a0.size, ((a0[2]'h).toNat : Int) = bt a0 2 := bt_at a0 2; clear p24; have qi24 : (2 < (a0.size : Int)) = True := eq_true (of_decide_eq_true (by first | (with_reducible assumption) | assumption)); replace q24 := eq_true q24) | (go_at_call 75; (with_reducible refine (spec_FpSub.calls 0 t464 t468 _ A39.out).mono ?_); rintro e w' ⟨rfl, ⟨nd, rfl⟩⟩; (try exact tD)) | ((with_reducible refine gate_dst (N := 7) rfl ?_); refine bE 7 #[.int .i64 0, .int .i64 0, .bool false] 25 ?_; intro gb469 hg w42 hbox hb; have BK469 := Aside0.mk (hbox); have GW469 := bG HB hg; have GE469 := bG HB hg; replace HB := bS HB hb; have NB458_469 := bL BK458 hg; have NB469_458 := bR BK458 hg; replace BK458 := bB BK458 hb; clear hb hbox hg; obtain ⟨hnb43, hnc43⟩ := nB NB469_458; obtain ⟨hcz44_0, hcz44_1, hcz44_2, hfz44_0, hfz44_1, hfz44_2⟩ := bK3 (w := w42) BK469) | (go_at_call 89; (with_reducible refine (spec_PointText.calls (wrap64 ((wrap64 ((wrap64 ((wrap64 (bt a0 0)) * 256)) + (wrap64 (bt a0 1)))) - 1)) t468 false t470 _ A40.out).mono ?_); rintro e w45 ⟨rfl, hb⟩; replace BK458 := bB BK458 hb; replace BK469 := bV 25 #[.int .i64 (wrap64 ((wrap64 ((wrap64 ((wrap64 (bt a0 0)) * 256)) + (wrap64 (bt a0 1)))) - 1)), .int .i64 t468, .bool false] BK469 hb; replace HB := bS HB hb; (try clear hb); obtain ⟨hcz46_0, hcz46_1, hcz46_2, hfz46_0, hfz46_1, hfz46_2⟩ := bK3 (w := w45) BK469; obtain ⟨hcz47_0, hcz47_1, hcz47_2, hfz47_0, hfz47_1, hfz47_2⟩ := bK3 (w := w45) BK458)))
            refine bodyPost_ret (results_ct rfl _ _ gb458 25 #[.int .i64 (wrap64 ((wrap64 ((wrap64 ((wrap64 (bt a0 0)) * 256)) + (wrap64 (bt a0 1)))) - 1)), .int .i64 t468, .bool false] (0, 0) _ rfl (bU BK458) Try.underlying25 rfl (by kernel_rfl)) rfl ?_
            exact ⟨rR, bZ HB⟩
           ·rw [if_neg c41] at H
            have c41b0 : (t470.toList == a0.toList) = false := beq_eq_false_iff_ne.mpr c41
            have c41b1 : (t470.toList != a0.toList) = true := bne_iff_ne.mpr c41
            simp only [Option.some.injEq, Prod.mk.injEq] at H
            obtain ⟨rfl, rfl, rfl, rfl⟩ := H
            go_wp2_with (first | (go_at_call 95; (with_reducible refine (spec_l07Right.calls (wrap64 ((wrap64 ((wrap64 ((wrap64 (bt a0 0)) * 256)) + (wrap64 (bt a0 1)))) - 1)) t463 _ A20.out).mono ?_); rintro e w' ⟨rfl, ⟨nd, rfl⟩⟩; (try exact tD)) | (go_at_call 94; (with_reducible refine (spec_FpRoot.calls kj11 t463 t464 true _ A21.out).mono ?_); rintro e w' ⟨rfl, ⟨nd, rfl⟩⟩; (try exact tD); have p24 : 0 ≤ (2 : Int) := (by omega); have q24 : 2 < a0.size := (by have : (2 : Int) < (a0.size : Int) := of_decide_eq_true (by first | (with_reducible assumption) | assumption); omega); have hx24 : ∀ h : 2 < a0.size, ((a0[2]'h).toNat : Int) = bt a0 2 := bt_at a0 2; clear p24; have qi24 : (2 < (a0.size : Int)) = True := eq_true (of_decide_eq_true (by first | (with_reducible assumption) | assumption)); replace q24 := eq_true q24) | (go_at_call 75; (with_reducible refine (spec_FpSub.calls 0 t464 t468 _ A39.out).mono ?_); rintro e w' ⟨rfl, ⟨nd, rfl⟩⟩; (try exact tD)) | ((with_reducible refine gate_dst (N := 7) rfl ?_); refine bE 7 #[.int .i64 0, .int .i64 0, .bool false] 25 ?_; intro gb469 hg w48 hbox hb; have BK469 := Aside0.mk (hbox); have GW469 := bG HB hg; have GE469 := bG HB hg; replace HB := bS HB hb; have NB458_469 := bL BK458 hg; have NB469_458 := bR BK458 hg; replace BK458 := bB BK458 hb; clear hb hbox hg; obtain ⟨hnb49, hnc49⟩ := nB NB469_458; obtain ⟨hcz50_0, hcz50_1, hcz50_2, hfz50_0, hfz50_1, hfz50_2⟩ := bK3 (w := w48) BK469) | (go_at_call 89; (with_reducible refine (spec_PointText.calls (wrap64 ((wrap64 ((wrap64 ((wrap64 (bt a0 0)) * 256)) + (wrap64 (bt a0 1)))) - 1)) t468 false t470 _ A40.out).mono ?_); rintro e w51 ⟨rfl, hb⟩; replace BK458 := bB BK458 hb; replace BK469 := bV 25 #[.int .i64 (wrap64 ((wrap64 ((wrap64 ((wrap64 (bt a0 0)) * 256)) + (wrap64 (bt a0 1)))) - 1)), .int .i64 t468, .bool false] BK469 hb; replace HB := bS HB hb; (try clear hb); obtain ⟨hcz52_0, hcz52_1, hcz52_2, hfz52_0, hfz52_1, hfz52_2⟩ := bK3 (w := w51) BK458))
            repeat (go_quiet (first | (go_at_call 95; (with_reducible refine (spec_l07Right.calls (wrap64 ((wrap64 ((wrap64 ((wrap64 (bt a0 0)) * 256)) + (wrap64 (bt a0 1)))) - 1)) t463 _ A20.out).mono ?_); rintro e w' ⟨rfl, ⟨nd, rfl⟩⟩; (try exact tD)) | (go_at_call 94; (with_reducible refine (spec_FpRoot.calls kj11 t463 t464 true _ A21.out).mono ?_); rintro e w' ⟨rfl, ⟨nd, rfl⟩⟩; (try exact tD); have p24 : 0 ≤ (2 : Int) := (by omega); have q24 : 2 < a0.size := (by have : (2 : Int) < (a0.size : Int) := of_decide_eq_true (by first | (with_reducible assumption) | assumption); omega); have hx24 : ∀ h : 2 < a0.size, ((a0[2]'h).toNat : Int) = bt a0 2 := bt_at a0 2; clear p24; have qi24 : (2 < (a0.size : Int)) = True := eq_true (of_decide_eq_true (by first | (with_reducible assumption) | assumption)); replace q24 := eq_true q24) | (go_at_call 75; (with_reducible refine (spec_FpSub.calls 0 t464 t468 _ A39.out).mono ?_); rintro e w' ⟨rfl, ⟨nd, rfl⟩⟩; (try exact tD)) | ((with_reducible refine gate_dst (N := 7) rfl ?_); refine bE 7 #[.int .i64 0, .int .i64 0, .bool false] 25 ?_; intro gb469 hg w48 hbox hb; have BK469 := Aside0.mk (hbox); have GW469 := bG HB hg; have GE469 := bG HB hg; replace HB := bS HB hb; have NB458_469 := bL BK458 hg; have NB469_458 := bR BK458 hg; replace BK458 := bB BK458 hb; clear hb hbox hg; obtain ⟨hnb49, hnc49⟩ := nB NB469_458; obtain ⟨hcz50_0, hcz50_1, hcz50_2, hfz50_0, hfz50_1, hfz50_2⟩ := bK3 (w := w48) BK469) | (go_at_call 89; (with_reducible refine (spec_PointText.calls (wrap64 ((wrap64 ((wrap64 ((wrap64 (bt a0 0)) * 256)) + (wrap64 (bt a0 1)))) - 1)) t468 false t470 _ A40.out).mono ?_); rintro e w51 ⟨rfl, hb⟩; replace BK458 := bB BK458 hb; replace BK469 := bV 25 #[.int .i64 (wrap64 ((wrap64 ((wrap64 ((wrap64 (bt a0 0)) * 256)) + (wrap64 (bt a0 1)))) - 1)), .int .i64 t468, .bool false] BK469 hb; replace HB := bS HB hb; (try clear hb); obtain ⟨hcz52_0, hcz52_1, hcz52_2, hfz52_0, hfz52_1, hfz52_2⟩ := bK3 (w := w51) BK458)); try go_wp2_with (first | (go_at_call 95; (with_reducible refine (spec_l07Right.calls (wrap64 ((wrap64 ((wrap64 ((wrap64 (bt a0 0)) * 256)) + (wrap64 (bt a0 1)))) - 1)) t463 _ A20.out).mono ?_); rintro e w' ⟨rfl, ⟨nd, rfl⟩⟩; (try exact tD)) | (go_at_call 94; (with_reducible refine (spec_FpRoot.calls kj11 t463 t464 true _ A21.out).mono ?_); rintro e w' ⟨rfl, ⟨nd, rfl⟩⟩; (try exact tD); have p24 : 0 ≤ (2 : Int) := (by omega); have q24 : 2 < a0.size := (by have : (2 : Int) < (a0.size : Int) := of_decide_eq_true (by first | (with_reducible assumption) | assumption); omega); have hx24 : ∀ h : 2 < a0.size, ((a0[2]'h).toNat : Int) = bt a0 2 := bt_at a0 2; clear p24; have qi24 : (2 < (a0.size : Int)) = True := eq_true (of_decide_eq_true (by first | (with_reducible assumption) | assumption)); replace q24 := eq_true q24) | (go_at_call 75; (with_reducible refine (spec_FpSub.calls 0 t464 t468 _ A39.out).mono ?_); rintro e w' ⟨rfl, ⟨nd, rfl⟩⟩; (try exact tD)) | ((with_reducible refine gate_dst (N := 7) rfl ?_); refine bE 7 #[.int .i64 0, .int .i64 0, .bool false] 25 ?_; intro gb469 hg w48 hbox hb; have BK469 := Aside0.mk (hbox); have GW469 := bG HB hg; have GE469 := bG HB hg; replace HB := bS HB hb; have NB458_469 := bL BK458 hg; have NB469_458 := bR BK458 hg; replace BK458 := bB BK458 hb; clear hb hbox hg; obtain ⟨hnb49, hnc49⟩ := nB NB469_458; obtain ⟨hcz50_0, hcz50_1, hcz50_2, hfz50_0, hfz50_1, hfz50_2⟩ := bK3 (w := w48) BK469) | (go_at_call 89; (with_reducible refine (spec_PointText.calls (wrap64 ((wrap64 ((wrap64 ((wrap64 (bt a0 0)) * 256)) + (wrap64 (bt a0 1)))) - 1)) t468 false t470 _ A40.out).mono ?_); rintro e w51 ⟨rfl, hb⟩; replace BK458 := bB BK458 hb; replace BK469 := bV 25 #[.int .i64 (wrap64 ((wrap64 ((wrap64 ((wrap64 (bt a0 0)) * 256)) + (wrap64 (bt a0 1)))) - 1)), .int .i64 t468, .bool false] BK469 hb; replace HB := bS HB hb; (try clear hb); obtain ⟨hcz52_0, hcz52_1, hcz52_2, hfz52_0, hfz52_1, hfz52_2⟩ := bK3 (w := w51) BK458)))
            refine bodyPost_ret (results_ct rfl _ _ gb458 25 #[.int .i64 0, .int .i64 0, .bool false] (0, 0) _ rfl (bU BK458) Try.underlying25 rfl (by kernel_rfl)) rfl ?_
            exact ⟨rR, bZ HB⟩
         ·rw [if_neg c23] at H
          exact absurd H (by simp)
        ·replace c22 := Bool.eq_false_iff.mpr c22
         subst c22
         rw [if_neg (show ¬ (false = true) by decide)] at H
         simp only [Option.some.injEq, Prod.mk.injEq] at H
         obtain ⟨rfl, rfl, rfl, rfl⟩ := H
         go_wp2_with (first | (go_at_call 95; (with_reducible refine (spec_l07Right.calls (wrap64 ((wrap64 ((wrap64 ((wrap64 (bt a0 0)) * 256)) + (wrap64 (bt a0 1)))) - 1)) t463 _ A20.out).mono ?_); rintro e w' ⟨rfl, ⟨nd, rfl⟩⟩; (try exact tD)) | (go_at_call 94; (with_reducible refine (spec_FpRoot.calls kj11 t463 t464 false _ A21.out).mono ?_); rintro e w' ⟨rfl, ⟨nd, rfl⟩⟩; (try exact tD); obtain ⟨hcz53_0, hcz53_1, hcz53_2, hfz53_0, hfz53_1, hfz53_2⟩ := bK3 (w := wc) BK458))
         repeat (go_quiet (first | (go_at_call 95; (with_reducible refine (spec_l07Right.calls (wrap64 ((wrap64 ((wrap64 ((wrap64 (bt a0 0)) * 256)) + (wrap64 (bt a0 1)))) - 1)) t463 _ A20.out).mono ?_); rintro e w' ⟨rfl, ⟨nd, rfl⟩⟩; (try exact tD)) | (go_at_call 94; (with_reducible refine (spec_FpRoot.calls kj11 t463 t464 false _ A21.out).mono ?_); rintro e w' ⟨rfl, ⟨nd, rfl⟩⟩; (try exact tD); obtain ⟨hcz53_0, hcz53_1, hcz53_2, hfz53_0, hfz53_1, hfz53_2⟩ := bK3 (w := wc) BK458)); try go_wp2_with (first | (go_at_call 95; (with_reducible refine (spec_l07Right.calls (wrap64 ((wrap64 ((wrap64 ((wrap64 (bt a0 0)) * 256)) + (wrap64 (bt a0 1)))) - 1)) t463 _ A20.out).mono ?_); rintro e w' ⟨rfl, ⟨nd, rfl⟩⟩; (try exact tD)) | (go_at_call 94; (with_reducible refine (spec_FpRoot.calls kj11 t463 t464 false _ A21.out).mono ?_); rintro e w' ⟨rfl, ⟨nd, rfl⟩⟩; (try exact tD); obtain ⟨hcz53_0, hcz53_1, hcz53_2, hfz53_0, hfz53_1, hfz53_2⟩ := bK3 (w := wc) BK458)))
         refine bodyPost_ret (results_ct rfl _ _ gb458 25 #[.int .i64 0, .int .i64 0, .bool false] (0, 0) _ rfl (bU BK458) Try.underlying25 rfl (by kernel_rfl)) rfl ?_
         exact ⟨rR, bZ HB⟩
    ·rw [if_neg c10] at H
     exact absurd H (by simp)
   ·rw [if_neg c8] at H
    exact absurd H (by simp)
 ·rw [if_neg c2] at H
  have c2b0 : ((a0.size : Int) == 3) = false := beq_eq_false_iff_ne.mpr c2
  have c2b1 : ((a0.size : Int) != 3) = true := bne_iff_ne.mpr c2
  simp only [Option.some.injEq, Prod.mk.injEq] at H
  obtain ⟨rfl, rfl, rfl, rfl⟩ := H
  go_enter Try.func46, Try.ntmps46
  go_wp2_with (first | ((with_reducible refine gate_dst (N := 2) rfl ?_); refine bE 2 #[.int .i64 0, .int .i64 0, .bool false] 25 ?_; intro gb458 hg w54 hbox hb; have BK458 := Aside0.mk (hbox); have GW458 := bG HB hg; have GE458 := bG HB hg; replace HB := bS HB hb; clear hb hbox hg; obtain ⟨hcz55_0, hcz55_1, hcz55_2, hfz55_0, hfz55_1, hfz55_2⟩ := bK3 (w := w54) BK458))
  repeat (go_quiet (first | ((with_reducible refine gate_dst (N := 2) rfl ?_); refine bE 2 #[.int .i64 0, .int .i64 0, .bool false] 25 ?_; intro gb458 hg w54 hbox hb; have BK458 := Aside0.mk (hbox); have GW458 := bG HB hg; have GE458 := bG HB hg; replace HB := bS HB hb; clear hb hbox hg; obtain ⟨hcz55_0, hcz55_1, hcz55_2, hfz55_0, hfz55_1, hfz55_2⟩ := bK3 (w := w54) BK458)); try go_wp2_with (first | ((with_reducible refine gate_dst (N := 2) rfl ?_); refine bE 2 #[.int .i64 0, .int .i64 0, .bool false] 25 ?_; intro gb458 hg w54 hbox hb; have BK458 := Aside0.mk (hbox); have GW458 := bG HB hg; have GE458 := bG HB hg; replace HB := bS HB hb; clear hb hbox hg; obtain ⟨hcz55_0, hcz55_1, hcz55_2, hfz55_0, hfz55_1, hfz55_2⟩ := bK3 (w := w54) BK458)))
  refine bodyPost_ret (results_ct rfl _ _ gb458 25 #[.int .i64 0, .int .i64 0, .bool false] (0, 0) _ rfl (bU BK458) Try.underlying25 rfl (by kernel_rfl)) rfl ?_
  exact ⟨rR, bZ HB⟩
/-! ### spec_DrawInGroup: function 47 -/
def spec_DrawInGroup.f (k : Nat) (l0 : List Int) : Option (Int × Int × Bool) := (spec_l01New.f k l0).bind fun bt472 => ((spec_l07Any.f k bt472.1 bt472.2.1 bt472.2.2).bind fun bt476 => (some (bt476.1, bt476.2.1, bt476.2.2.1)))
theorem spec_DrawInGroup.mono : ∀ a0 k, LeO (spec_DrawInGroup.f k a0) (spec_DrawInGroup.f (k + 1) a0) := by
 intro a0 k
 unfold spec_DrawInGroup.f
 repeat' first
   | (with_reducible exact spec_l01New.mono _ _)
   | (with_reducible exact spec_l07Any.mono _ _ _ _)
   | (with_reducible exact LeO.refl _)
   | (with_reducible exact LeO.none _)
   | (with_reducible refine LeO.ite ?_ ?_)
   | (with_reducible refine LeO.bind ?_ (fun _ => ?_))
   | exact spec_l01New.mono _ _
   | exact spec_l07Any.mono _ _ _ _
   | exact LeO.none _
   | refine LeO.ite ?_ ?_
   | refine LeO.bind ?_ (fun _ => ?_)
set_option maxHeartbeats 8000000 in
set_option maxRecDepth 100000 in
theorem spec_DrawInGroup.calls (k : Nat) (A0 : Option Addr) (c0 : Nat) (l0 : List Int) (r1 : Int) (r2 : Int) (r3 : Bool) (w : World) (hr0 : Kd.C (Kd.int .u8) w A0 l0.length l0) (hc0 : l0.length ≤ c0) (h : spec_DrawInGroup.f k l0 = some (r1, r2, r3)) :
  Calls Try.prog 47 #[.slice A0 l0.length c0] w fun e w' => e = .returned (.agg #[.int .i64 r1, .int .i64 r2, .bool r3]) ∧ Below w.heap.size w w' := by
 have hu25 := Try.underlying25
 have HR0 := Aside0.mk hr0
 have HC0 := Aside0.mk hc0
 clear hr0 hc0
 have HB := Aside0.mk (Below.refl w.heap.size w)
 have H : ((spec_l01New.f k l0).bind fun bt472 => ((spec_l07Any.f k bt472.1 bt472.2.1 bt472.2.2).bind fun bt476 => (some (bt476.1, bt476.2.1, bt476.2.2.1)))) = some (r1, r2, r3) := h
 clear h
 replace H := Option.bind_eq_some_iff.mp H
 obtain ⟨⟨t472, t473, t474⟩, A20, H⟩ := H
 have A2 := Aside0.mk A20
 clear A20
 replace H := Option.bind_eq_some_iff.mp H
 obtain ⟨⟨t476, t477, t478, t479, t480⟩, A30, H⟩ := H
 have A3 := Aside0.mk A30
 clear A30
 simp only [Option.some.injEq, Prod.mk.injEq] at H
 obtain ⟨rfl, rfl, rfl⟩ := H
 go_enter Try.func47, Try.ntmps47
 go_wp2_with (first | ((with_reducible refine gate_dst (N := 2) rfl ?_); refine bE 2 #[.int .i64 0, .int .i64 0, .bool false] 25 ?_; intro gb471 hg w4 hbox hb; have BK471 := Aside0.mk (hbox); have GW471 := bG HB hg; have GE471 := bG HB hg; replace HB := bS HB hb; clear hb hbox hg) | ((with_reducible refine gate_callee (f := 59) rfl ?_); refine gL (some 4) Try.func59 #[.slice A0 l0.length c0] ?_; (with_reducible refine (spec_l01New.calls k _ _ l0 t472 t473 t474 w _ ?side1 ?side2 ?side3 A2.out).mono ?_); (case side1 => repeat (first | (with_reducible first | exact HB.out | apply below_alloc | apply pw_below_drewN | apply below_drew1 | refine below_set ?_ GE471.out) | exact HB.out)); (case side2 => exact HR0.out); (case side3 => exact HC0.out); rintro e w5 ⟨g475, rfl, hi, hb, hb2⟩; refine ⟨_, rfl, ?_⟩; replace HB := Aside0.mk (hb); have HI475 := Aside0.mk (hi); have NB475_471 := Aside0.mk (IsS89.ne_blk hi (blk_below (bP BK471) hb2) (by decide)); have NB471_475 := Aside0.mk (Ne.symm (IsS89.ne_blk hi (blk_below (bP BK471) hb2) (by decide))); replace BK471 := Aside0.mk (blk_below (bP BK471) hb2); (try clear hb)) | ((with_reducible refine gate_callee (f := 90) rfl ?_); refine gL (some 5) Try.func90 #[.pointer (some ⟨g475, 0, none⟩)] ?_; (with_reducible refine (spec_l07Any.calls k g475 t472 t473 t474 t476 t477 t478 t479 t480 w _ ?side1 ?side2 A3.out).mono ?_); (case side1 => repeat (first | (with_reducible first | exact HI475.out | apply IsS89.alloc | apply IsS89.drewN | apply IsS89.drew | apply IsS89.set_1 | apply IsS89.set_2 | refine IsS89.far ?_ NB475_471.out _) | exact HI475.out)); (case side2 => repeat (first | (with_reducible first | exact HB.out | apply below_alloc | apply pw_below_drewN | apply below_drew1 | refine below_set ?_ (IsS89.ge HI475.out) | refine below_set ?_ GE471.out) | exact HB.out)); rintro e w6 ⟨rfl, hi, hb, hk⟩; refine ⟨_, rfl, ?_⟩; replace BK471 := Aside0.mk (KeepBut.blk hk (g' := gb471) (o := .cells #[.int .i64 0, .int .i64 0, .bool false] 25 (0, 0)) (bP BK471) NB471_475.out (by simp)); replace HB := Aside0.mk (hb); replace HI475 := Aside0.mk (hi); (try clear hb); obtain ⟨hnb7, hnc7⟩ := nB NB471_475; obtain ⟨hcz8_0, hcz8_1, hcz8_2, hfz8_0, hfz8_1, hfz8_2⟩ := bK3 (w := w6) BK471))
 refine rC gb471 25 #[.int .i64 t476, .int .i64 t477, .bool t478] (bU BK471) Try.underlying25 ?_
 exact ⟨by first | rfl | (simp [errW_none, errW_some] <;> rfl) | (simp [*, errW_none, errW_some] <;> rfl), by repeat (first | (with_reducible first | exact HB.out | apply below_alloc | apply pw_below_drewN | apply below_drew1 | refine below_set ?_ (IsS89.ge HI475.out) | refine below_set ?_ GE471.out) | exact HB.out)⟩
/-! ### spec_l07Pair: function 96 -/
def spec_l07Pair.f (k : Nat) (l0 : List Int) : Option (Int × Int × Bool × Int × Int × Bool) := (spec_l01New.f k l0).bind fun bt483 => ((spec_l01Below.f bt483.1 bt483.2.1 bt483.2.2 5).bind fun bt487 => ((spec_l07Any.f k bt483.1 bt487.2.1 bt487.2.2).bind fun bt490 => (if bt487.1 = 0 then (some (bt490.1, bt490.2.1, bt490.2.2.1, bt490.1, bt490.2.1, bt490.2.2.1)) else (if bt487.1 = 1 then ((spec_PointNeg.f bt490.1 bt490.2.1 bt490.2.2.1).bind fun bt496 => (some (bt490.1, bt490.2.1, bt490.2.2.1, bt496.1, bt496.2.1, bt496.2.2))) else ((spec_l07Any.f k bt483.1 bt490.2.2.2.1 bt490.2.2.2.2).bind fun bt499 => (some (bt490.1, bt490.2.1, bt490.2.2.1, bt499.1, bt499.2.1, bt499.2.2.1)))))))
theorem spec_l07Pair.mono : ∀ a0 k, LeO (spec_l07Pair.f k a0) (spec_l07Pair.f (k + 1) a0) := by
 intro a0 k
 unfold spec_l07Pair.f
 repeat' first
   | (with_reducible exact spec_l01New.mono _ _)
   | (with_reducible exact spec_l07Any.mono _ _ _ _)
   | (with_reducible exact LeO.refl _)
   | (with_reducible exact LeO.none _)
   | (with_reducible refine LeO.ite ?_ ?_)
   | (with_reducible refine LeO.bind ?_ (fun _ => ?_))
   | exact spec_l01New.mono _ _
   | exact spec_l07Any.mono _ _ _ _
   | exact LeO.none _
   | refine LeO.ite ?_ ?_
   | refine LeO.bind ?_ (fun _ => ?_)
set_option maxHeartbeats 8000000 in
set_option maxRecDepth 100000 in
theorem spec_l07Pair.calls (k : Nat) (A0 : Option Addr) (c0 : Nat) (l0 : List Int) (r1 : Int) (r2 : Int) (r3 : Bool) (r4 : Int) (r5 : Int) (r6 : Bool) (w : World) (hr0 : Kd.C (Kd.int .u8) w A0 l0.length l0) (hc0 : l0.length ≤ c0) (h : spec_l07Pair.f k l0 = some (r1, r2, r3, r4, r5, r6)) :
  Calls Try.prog 96 #[.slice A0 l0.length c0] w fun e w' => e = .returned (.tuple #[.agg #[.int .i64 r1, .int .i64 r2, .bool r3], .agg #[.int .i64 r4, .int .i64 r5, .bool r6]]) ∧ Below w.heap.size w w' := by
 have hu25 := Try.underlying25
 have HR0 := Aside0.mk hr0
 have HC0 := Aside0.mk hc0
 clear hr0 hc0
 have HB := Aside0.mk (Below.refl w.heap.size w)
 have H : ((spec_l01New.f k l0).bind fun bt483 => ((spec_l01Below.f bt483.1 bt483.2.1 bt483.2.2 5).bind fun bt487 => ((spec_l07Any.f k bt483.1 bt487.2.1 bt487.2.2).bind fun bt490 => (if bt487.1 = 0 then (some (bt490.1, bt490.2.1, bt490.2.2.1, bt490.1, bt490.2.1, bt490.2.2.1)) else (if bt487.1 = 1 then ((spec_PointNeg.f bt490.1 bt490.2.1 bt490.2.2.1).bind fun bt496 => (some (bt490.1, bt490.2.1, bt490.2.2.1, bt496.1, bt496.2.1, bt496.2.2))) else ((spec_l07Any.f k bt483.1 bt490.2.2.2.1 bt490.2.2.2.2).bind fun bt499 => (some (bt490.1, bt490.2.1, bt490.2.2.1, bt499.1, bt499.2.1, bt499.2.2.1)))))))) = some (r1, r2, r3, r4, r5, r6) := h
 clear h
 replace H := Option.bind_eq_some_iff.mp H
 obtain ⟨⟨t483, t484, t485⟩, A20, H⟩ := H
 have A2 := Aside0.mk A20
 clear A20
 replace H := Option.bind_eq_some_iff.mp H
 obtain ⟨⟨t487, t488, t489⟩, A30, H⟩ := H
 have A3 := Aside0.mk A30
 clear A30
 replace H := Option.bind_eq_some_iff.mp H
 obtain ⟨⟨t490, t491, t492, t493, t494⟩, A40, H⟩ := H
 have A4 := Aside0.mk A40
 clear A40
 by_cases c5 : t487 = 0
 ·rw [if_pos c5] at H
  have c5b0 : (t487 == 0) = true := beq_iff_eq.mpr c5
  have c5b1 : (t487 != 0) = false := bne_eq_false_iff_eq.mpr c5
  clear c5
  simp only [Option.some.injEq, Prod.mk.injEq] at H
  obtain ⟨rfl, rfl, rfl, rfl, rfl, rfl⟩ := H
  go_enter Try.func96, Try.ntmps96
  try go_wp2_with (first | ((with_reducible refine gate_dst (N := 2) rfl ?_); refine bE 2 #[.int .i64 0, .int .i64 0, .bool false] 25 ?_; intro gb481 hg w6 hbox hb; have BK481 := Aside0.mk (hbox); have GW481 := bG HB hg; have GE481 := bG HB hg; replace HB := bS HB hb; clear hb hbox hg) | ((with_reducible refine gate_dst (N := 3) rfl ?_); refine bE 3 #[.int .i64 0, .int .i64 0, .bool false] 25 ?_; intro gb482 hg w7 hbox hb; have BK482 := Aside0.mk (hbox); have GW482 := bG HB hg; have GE482 := bG HB hg; replace HB := bS HB hb; have NB481_482 := bL BK481 hg; have NB482_481 := bR BK481 hg; replace BK481 := bB BK481 hb; clear hb hbox hg) | ((with_reducible refine gate_callee (f := 59) rfl ?_); refine gL (some 8) Try.func59 #[.slice A0 l0.length c0] ?_; (with_reducible refine (spec_l01New.calls k _ _ l0 t483 t484 t485 w _ ?side1 ?side2 ?side3 A2.out).mono ?_); (case side1 => repeat (first | (with_reducible first | exact HB.out | apply below_alloc | apply pw_below_drewN | apply below_drew1 | refine below_set ?_ GE481.out | refine below_set ?_ GE482.out) | exact HB.out)); (case side2 => exact HR0.out); (case side3 => exact HC0.out); rintro e w8 ⟨g486, rfl, hi, hb, hb2⟩; refine ⟨_, rfl, ?_⟩; replace HB := Aside0.mk (hb); have HI486 := Aside0.mk (hi); have NB486_481 := Aside0.mk (IsS89.ne_blk hi (blk_below (bP BK481) hb2) (by decide)); have NB481_486 := Aside0.mk (Ne.symm (IsS89.ne_blk hi (blk_below (bP BK481) hb2) (by decide))); replace BK481 := Aside0.mk (blk_below (bP BK481) hb2); have NB486_482 := Aside0.mk (IsS89.ne_blk hi (blk_below (bP BK482) hb2) (by decide)); have NB482_486 := Aside0.mk (Ne.symm (IsS89.ne_blk hi (blk_below (bP BK482) hb2) (by decide))); replace BK482 := Aside0.mk (blk_below (bP BK482) hb2); (try clear hb)) | ((with_reducible refine gate_callee (f := 62) rfl ?_); refine gL (some 10) Try.func62 #[.pointer (some ⟨g486, 0, none⟩), .int .i64 5] ?_; (with_reducible refine (spec_l01Below.calls g486 t483 t484 t485 5 t487 t488 t489 w _ ?side1 ?side2 A3.out).mono ?_); (case side1 => repeat (first | (with_reducible first | exact HI486.out | apply IsS89.alloc | apply IsS89.drewN | apply IsS89.drew | apply IsS89.set_1 | apply IsS89.set_2 | refine IsS89.far ?_ NB486_481.out _ | refine IsS89.far ?_ NB486_482.out _) | exact HI486.out)); (case side2 => repeat (first | (with_reducible first | exact HB.out | apply below_alloc | apply pw_below_drewN | apply below_drew1 | refine below_set ?_ (IsS89.ge HI486.out) | refine below_set ?_ GE481.out | refine below_set ?_ GE482.out) | exact HB.out)); rintro e w9 ⟨rfl, hi, hb, hk⟩; refine ⟨_, rfl, ?_⟩; replace BK481 := Aside0.mk (KeepBut.blk hk (g' := gb481) (o := .cells #[.int .i64 0, .int .i64 0, .bool false] 25 (0, 0)) (bP BK481) NB481_486.out (by simp)); replace BK482 := Aside0.mk (KeepBut.blk hk (g' := gb482) (o := .cells #[.int .i64 0, .int .i64 0, .bool false] 25 (0, 0)) (bP BK482) NB482_486.out (by simp)); replace HB := Aside0.mk (hb); replace HI486 := Aside0.mk (hi); (try clear hb)) | ((with_reducible refine gate_callee (f := 90) rfl ?_); refine gL (some 12) Try.func90 #[.pointer (some ⟨g486, 0, none⟩)] ?_; (with_reducible refine (spec_l07Any.calls k g486 t483 t488 t489 t490 t491 t492 t493 t494 w _ ?side1 ?side2 A4.out).mono ?_); (case side1 => repeat (first | (with_reducible first | exact HI486.out | apply IsS89.alloc | apply IsS89.drewN | apply IsS89.drew | apply IsS89.set_1 | apply IsS89.set_2 | refine IsS89.far ?_ NB486_481.out _ | refine IsS89.far ?_ NB486_482.out _) | exact HI486.out)); (case side2 => repeat (first | (with_reducible first | exact HB.out | apply below_alloc | apply pw_below_drewN | apply below_drew1 | refine below_set ?_ (IsS89.ge HI486.out) | refine below_set ?_ GE481.out | refine below_set ?_ GE482.out) | exact HB.out)); rintro e w10 ⟨rfl, hi, hb, hk⟩; refine ⟨_, rfl, ?_⟩; replace BK481 := Aside0.mk (KeepBut.blk hk (g' := gb481) (o := .cells #[.int .i64 0, .int .i64 0, .bool false] 25 (0, 0)) (bP BK481) NB481_486.out (by simp)); replace BK482 := Aside0.mk (KeepBut.blk hk (g' := gb482) (o := .cells #[.int .i64 0, .int .i64 0, .bool false] 25 (0, 0)) (bP BK482) NB482_486.out (by simp)); replace HB := Aside0.mk (hb); replace HI486 := Aside0.mk (hi); (try clear hb)) | ((with_reducible refine gate_dst (N := 6) rfl ?_); refine bE 6 #[.int .i64 0, .int .i64 0, .bool false] 25 ?_; intro gb495 hg w11 hbox hb; have BK495 := Aside0.mk (hbox); have GW495 := Aside0.mk ((by rw [hg]; exact (below_size (by repeat (first | (with_reducible first | exact HB.out | apply below_alloc | apply pw_below_drewN | apply below_drew1 | refine below_set ?_ (IsS89.ge HI486.out) | refine below_set ?_ GE481.out | refine below_set ?_ GE482.out) | exact HB.out))) : w.heap.size ≤ gb495)); have GE495 := Aside0.mk ((by rw [hg]; exact (below_size (by repeat (first | (with_reducible first | exact HB.out | apply below_alloc | apply pw_below_drewN | apply below_drew1 | refine below_set ?_ (IsS89.ge HI486.out) | refine below_set ?_ GE481.out | refine below_set ?_ GE482.out) | exact HB.out))) : w.heap.size ≤ gb495)); replace HB := Aside0.mk (below_step (by repeat (first | (with_reducible first | exact HB.out | apply below_alloc | apply pw_below_drewN | apply below_drew1 | refine below_set ?_ (IsS89.ge HI486.out) | refine below_set ?_ GE481.out | refine below_set ?_ GE482.out) | exact HB.out)) hb); have NB481_495 := bL BK481 hg; have NB495_481 := bR BK481 hg; replace BK481 := bB BK481 hb; have NB482_495 := bL BK482 hg; have NB495_482 := bR BK482 hg; replace BK482 := bB BK482 hb; have NB486_495 := Aside0.mk ((by rw [hg]; exact Nat.ne_of_lt (IsS89.lt (show IsS89 w _ g486 t483 t493 t494 from by repeat (first | (with_reducible first | exact HI486.out | apply IsS89.alloc | apply IsS89.drewN | apply IsS89.drew | apply IsS89.set_1 | apply IsS89.set_2 | refine IsS89.far ?_ NB486_481.out _ | refine IsS89.far ?_ NB486_482.out _) | exact HI486.out))) : g486 ≠ gb495)); have NB495_486 := Aside0.mk ((by rw [hg]; exact Nat.ne_of_gt (IsS89.lt (show IsS89 w _ g486 t483 t493 t494 from by repeat (first | (with_reducible first | exact HI486.out | apply IsS89.alloc | apply IsS89.drewN | apply IsS89.drew | apply IsS89.set_1 | apply IsS89.set_2 | refine IsS89.far ?_ NB486_481.out _ | refine IsS89.far ?_ NB486_482.out _) | exact HI486.out))) : gb495 ≠ g486)); replace HI486 := Aside0.mk (IsS89.below (by repeat (first | (with_reducible first | exact HI486.out | apply IsS89.alloc | apply IsS89.drewN | apply IsS89.drew | apply IsS89.set_1 | apply IsS89.set_2 | refine IsS89.far ?_ NB486_481.out _ | refine IsS89.far ?_ NB486_482.out _) | exact HI486.out)) hb); clear hb hbox hg; obtain ⟨hnb12, hnc12⟩ := nB NB495_481; obtain ⟨hnb13, hnc13⟩ := nB NB495_482; obtain ⟨hnb14, hnc14⟩ := nB NB495_486; obtain ⟨hcz15_0, hcz15_1, hcz15_2, hfz15_0, hfz15_1, hfz15_2⟩ := bK3 (w := w11) BK495))
  obtain ⟨w16, hW_⟩ : ∃ W_ : World, W_ = (((w11.setCell ⟨gb495, 0, none⟩ (.int .i64 t490)).setCell ⟨gb495, 1, none⟩ (.int .i64 t491)).setCell ⟨gb495, 2, none⟩ (.bool t492)) := ⟨_, rfl⟩
  replace BK481 := bW hW_ BK481
  replace BK482 := bW hW_ BK482
  replace BK495 := bX hW_ 25 #[.int .i64 t490, .int .i64 t491, .bool t492] BK495
  have n3_ : Aside0 (IsS89 w (((w11.setCell ⟨gb495, 0, none⟩ (.int .i64 t490)).setCell ⟨gb495, 1, none⟩ (.int .i64 t491)).setCell ⟨gb495, 2, none⟩ (.bool t492)) g486 t483 t493 t494) := ⟨by repeat (first | (with_reducible first | exact HI486.out | apply IsS89.alloc | apply IsS89.drewN | apply IsS89.drew | apply IsS89.set_1 | apply IsS89.set_2 | refine IsS89.far ?_ NB486_481.out _ | refine IsS89.far ?_ NB486_482.out _ | refine IsS89.far ?_ NB486_495.out _) | exact HI486.out)⟩
  rw [← hW_] at n3_
  have n4_ : Aside0 (Below w.heap.size w (((w11.setCell ⟨gb495, 0, none⟩ (.int .i64 t490)).setCell ⟨gb495, 1, none⟩ (.int .i64 t491)).setCell ⟨gb495, 2, none⟩ (.bool t492))) := ⟨by repeat (first | (with_reducible first | exact HB.out | apply below_alloc | apply pw_below_drewN | apply below_drew1 | refine below_set ?_ (IsS89.ge HI486.out) | refine below_set ?_ GE481.out | refine below_set ?_ GE482.out | refine below_set ?_ GE495.out) | exact HB.out)⟩
  rw [← hW_] at n4_
  (try clear HI486)
  (try clear HB)
  have HI486 := n3_
  clear n3_
  have HB := n4_
  clear n4_
  rw [← hW_]
  clear hW_
  replace BK481 := Aside0.mk (blk_drew BK481.out)
  replace BK482 := Aside0.mk (blk_drew BK482.out)
  replace BK495 := Aside0.mk (blk_drew BK495.out)
  replace HI486 := Aside0.mk (IsS89.drew HI486.out)
  replace HB := Aside0.mk (below_drew1 HB.out)
  refine start_ (n := 4) (S := fun w' => SQ3 w' gb495 (.int .i64 t490) (.int .i64 t491) (.bool t492)) (ds := []) #[false, false, false, false] (by kernel_rfl) rfl rfl (bT3 BK495) (fun hHeld => ?_)
  generalize w16.drew = w17 at BK481 BK482 BK495 HI486 HB hHeld ⊢
  refine take_ (i := 0) (N := some 16) (v := ?_) (a' := ?_) #[true, false, false, false] rfl rfl (by kernel_rfl) (fun _ _ _ h => h) (Or.inl ⟨by rfl, ?_⟩) hHeld ?_ ?_
  rotate_left
  ·rintro w' ⟨s0, s1, s2⟩
   go_simp
   with_reducible rfl
  rotate_left
  ·simp only [Act.put, List.setIfInBounds_toArray, List.set_cons_zero, List.set_cons_succ, i64_w, i32_w]
   rfl
  refine take_ (i := 1) (N := some 17) (v := ?_) (a' := ?_) #[true, true, false, false] rfl rfl (by kernel_rfl) (fun _ _ _ h => h) (Or.inl ⟨by rfl, ?_⟩) hHeld ?_ ?_
  rotate_left
  ·rintro w' ⟨s0, s1, s2⟩
   go_simp
   with_reducible rfl
  rotate_left
  ·simp only [Act.put, List.setIfInBounds_toArray, List.set_cons_zero, List.set_cons_succ, i64_w, i32_w]
   rfl
  refine one_ (i := 2) (N := none) #[true, true, true, false] rfl rfl (by kernel_rfl) (by decide) (fun K hK => ?_)
  have hs18 : w17.cell? ⟨gb481, 0, none⟩ = some (.int .i64 0) := bc BK481 0
  have hfs18 := blk_frozen BK481.out 0
  have hns18_1 := NB482_481.out
  have hns18_2 := NB495_481.out
  have hms18_1 := NB481_482.out
  have hms18_2 := NB481_495.out
  have hs19 : w17.cell? ⟨gb481, 1, none⟩ = some (.int .i64 0) := bc BK481 1
  have hfs19 := blk_frozen BK481.out 1
  have hns19_1 := NB482_481.out
  have hns19_2 := NB495_481.out
  have hms19_1 := NB481_482.out
  have hms19_2 := NB481_495.out
  have hs20 : w17.cell? ⟨gb481, 2, none⟩ = some (.bool false) := bc BK481 2
  have hfs20 := blk_frozen BK481.out 2
  have hns20_1 := NB482_481.out
  have hns20_2 := NB495_481.out
  have hms20_1 := NB481_482.out
  have hms20_2 := NB481_495.out
  refine skip_ (w1 := ?_) (by rfl) rfl ?_ ?_
  rotate_left
  ·go_simp
   rfl
  refine hK.out _ _ ⟨((cell_far (p := ⟨gb481, _, none⟩) NB495_481.out _).trans (((cell_far (p := ⟨gb481, _, none⟩) NB495_481.out _).trans (((cell_far (p := ⟨gb481, _, none⟩) NB495_481.out _).trans (hHeld.1)))))), ((cell_far (p := ⟨gb481, _, none⟩) NB495_481.out _).trans (((cell_far (p := ⟨gb481, _, none⟩) NB495_481.out _).trans (((cell_far (p := ⟨gb481, _, none⟩) NB495_481.out _).trans (hHeld.2.1)))))), ((cell_far (p := ⟨gb481, _, none⟩) NB495_481.out _).trans (((cell_far (p := ⟨gb481, _, none⟩) NB495_481.out _).trans (((cell_far (p := ⟨gb481, _, none⟩) NB495_481.out _).trans (hHeld.2.2))))))⟩ (fun hHeld => ?_)
  clear hK K
  refine one_ (i := 3) (N := none) #[true, true, true, true] rfl rfl (by kernel_rfl) (by decide) (fun K hK => ?_)
  have hs21 : w17.cell? ⟨gb482, 0, none⟩ = some (.int .i64 0) := bc BK482 0
  have hfs21 := blk_frozen BK482.out 0
  have hns21_0 := NB481_482.out
  have hns21_2 := NB495_482.out
  have hms21_0 := NB482_481.out
  have hms21_2 := NB482_495.out
  have hs22 : w17.cell? ⟨gb482, 1, none⟩ = some (.int .i64 0) := bc BK482 1
  have hfs22 := blk_frozen BK482.out 1
  have hns22_0 := NB481_482.out
  have hns22_2 := NB495_482.out
  have hms22_0 := NB482_481.out
  have hms22_2 := NB482_495.out
  have hs23 : w17.cell? ⟨gb482, 2, none⟩ = some (.bool false) := bc BK482 2
  have hfs23 := blk_frozen BK482.out 2
  have hns23_0 := NB481_482.out
  have hns23_2 := NB495_482.out
  have hms23_0 := NB482_481.out
  have hms23_2 := NB482_495.out
  refine skip_ (w1 := ?_) (by rfl) rfl ?_ ?_
  rotate_left
  ·go_simp
   rfl
  refine hK.out _ _ ⟨((cell_far (p := ⟨gb482, _, none⟩) NB495_482.out _).trans (((cell_far (p := ⟨gb482, _, none⟩) NB495_482.out _).trans (((cell_far (p := ⟨gb482, _, none⟩) NB495_482.out _).trans (hHeld.1)))))), ((cell_far (p := ⟨gb482, _, none⟩) NB495_482.out _).trans (((cell_far (p := ⟨gb482, _, none⟩) NB495_482.out _).trans (((cell_far (p := ⟨gb482, _, none⟩) NB495_482.out _).trans (hHeld.2.1)))))), ((cell_far (p := ⟨gb482, _, none⟩) NB495_482.out _).trans (((cell_far (p := ⟨gb482, _, none⟩) NB495_482.out _).trans (((cell_far (p := ⟨gb482, _, none⟩) NB495_482.out _).trans (hHeld.2.2))))))⟩ (fun hHeld => ?_)
  clear hK K
  refine done_ (by kernel_rfl) ?_
  try go_wp2
  refine bodyPost_ret (results_cc rfl _ _ gb481 gb482 25 25 #[.int .i64 t490, .int .i64 t491, .bool t492] #[.int .i64 t490, .int .i64 t491, .bool t492] (0, 0) (0, 0) _ _ rfl (bU BK481) Try.underlying25 rfl (by kernel_rfl) rfl (bU BK482) Try.underlying25 rfl (by kernel_rfl)) rfl ?_
  exact ⟨by first | rfl | (simp [errW_none, errW_some] <;> rfl) | (simp [*, errW_none, errW_some] <;> rfl), by repeat (first | (with_reducible first | exact HB.out | apply below_alloc | apply pw_below_drewN | apply below_drew1 | refine below_set ?_ (IsS89.ge HI486.out) | refine below_set ?_ GE481.out | refine below_set ?_ GE482.out | refine below_set ?_ GE495.out) | exact HB.out)⟩
 ·rw [if_neg c5] at H
  have c5b0 : (t487 == 0) = false := beq_eq_false_iff_ne.mpr c5
  have c5b1 : (t487 != 0) = true := bne_iff_ne.mpr c5
  by_cases c24 : t487 = 1
  ·rw [if_pos c24] at H
   have c24b0 : (t487 == 1) = true := beq_iff_eq.mpr c24
   have c24b1 : (t487 != 1) = false := bne_eq_false_iff_eq.mpr c24
   clear c24
   replace H := Option.bind_eq_some_iff.mp H
   obtain ⟨⟨t496, t497, t498⟩, A250, H⟩ := H
   have A25 := Aside0.mk A250
   clear A250
   simp only [Option.some.injEq, Prod.mk.injEq] at H
   obtain ⟨rfl, rfl, rfl, rfl, rfl, rfl⟩ := H
   go_enter Try.func96, Try.ntmps96
   try go_wp2_with (first | ((with_reducible refine gate_dst (N := 2) rfl ?_); refine bE 2 #[.int .i64 0, .int .i64 0, .bool false] 25 ?_; intro gb481 hg w26 hbox hb; have BK481 := Aside0.mk (hbox); have GW481 := bG HB hg; have GE481 := bG HB hg; replace HB := bS HB hb; clear hb hbox hg) | ((with_reducible refine gate_dst (N := 3) rfl ?_); refine bE 3 #[.int .i64 0, .int .i64 0, .bool false] 25 ?_; intro gb482 hg w27 hbox hb; have BK482 := Aside0.mk (hbox); have GW482 := bG HB hg; have GE482 := bG HB hg; replace HB := bS HB hb; have NB481_482 := bL BK481 hg; have NB482_481 := bR BK481 hg; replace BK481 := bB BK481 hb; clear hb hbox hg) | ((with_reducible refine gate_callee (f := 59) rfl ?_); refine gL (some 8) Try.func59 #[.slice A0 l0.length c0] ?_; (with_reducible refine (spec_l01New.calls k _ _ l0 t483 t484 t485 w _ ?side1 ?side2 ?side3 A2.out).mono ?_); (case side1 => repeat (first | (with_reducible first | exact HB.out | apply below_alloc | apply pw_below_drewN | apply below_drew1 | refine below_set ?_ GE481.out | refine below_set ?_ GE482.out) | exact HB.out)); (case side2 => exact HR0.out); (case side3 => exact HC0.out); rintro e w28 ⟨g486, rfl, hi, hb, hb2⟩; refine ⟨_, rfl, ?_⟩; replace HB := Aside0.mk (hb); have HI486 := Aside0.mk (hi); have NB486_481 := Aside0.mk (IsS89.ne_blk hi (blk_below (bP BK481) hb2) (by decide)); have NB481_486 := Aside0.mk (Ne.symm (IsS89.ne_blk hi (blk_below (bP BK481) hb2) (by decide))); replace BK481 := Aside0.mk (blk_below (bP BK481) hb2); have NB486_482 := Aside0.mk (IsS89.ne_blk hi (blk_below (bP BK482) hb2) (by decide)); have NB482_486 := Aside0.mk (Ne.symm (IsS89.ne_blk hi (blk_below (bP BK482) hb2) (by decide))); replace BK482 := Aside0.mk (blk_below (bP BK482) hb2); (try clear hb)) | ((with_reducible refine gate_callee (f := 62) rfl ?_); refine gL (some 10) Try.func62 #[.pointer (some ⟨g486, 0, none⟩), .int .i64 5] ?_; (with_reducible refine (spec_l01Below.calls g486 t483 t484 t485 5 t487 t488 t489 w _ ?side1 ?side2 A3.out).mono ?_); (case side1 => repeat (first | (with_reducible first | exact HI486.out | apply IsS89.alloc | apply IsS89.drewN | apply IsS89.drew | apply IsS89.set_1 | apply IsS89.set_2 | refine IsS89.far ?_ NB486_481.out _ | refine IsS89.far ?_ NB486_482.out _) | exact HI486.out)); (case side2 => repeat (first | (with_reducible first | exact HB.out | apply below_alloc | apply pw_below_drewN | apply below_drew1 | refine below_set ?_ (IsS89.ge HI486.out) | refine below_set ?_ GE481.out | refine below_set ?_ GE482.out) | exact HB.out)); rintro e w29 ⟨rfl, hi, hb, hk⟩; refine ⟨_, rfl, ?_⟩; replace BK481 := Aside0.mk (KeepBut.blk hk (g' := gb481) (o := .cells #[.int .i64 0, .int .i64 0, .bool false] 25 (0, 0)) (bP BK481) NB481_486.out (by simp)); replace BK482 := Aside0.mk (KeepBut.blk hk (g' := gb482) (o := .cells #[.int .i64 0, .int .i64 0, .bool false] 25 (0, 0)) (bP BK482) NB482_486.out (by simp)); replace HB := Aside0.mk (hb); replace HI486 := Aside0.mk (hi); (try clear hb)) | ((with_reducible refine gate_callee (f := 90) rfl ?_); refine gL (some 12) Try.func90 #[.pointer (some ⟨g486, 0, none⟩)] ?_; (with_reducible refine (spec_l07Any.calls k g486 t483 t488 t489 t490 t491 t492 t493 t494 w _ ?side1 ?side2 A4.out).mono ?_); (case side1 => repeat (first | (with_reducible first | exact HI486.out | apply IsS89.alloc | apply IsS89.drewN | apply IsS89.drew | apply IsS89.set_1 | apply IsS89.set_2 | refine IsS89.far ?_ NB486_481.out _ | refine IsS89.far ?_ NB486_482.out _) | exact HI486.out)); (case side2 => repeat (first | (with_reducible first | exact HB.out | apply below_alloc | apply pw_below_drewN | apply below_drew1 | refine below_set ?_ (IsS89.ge HI486.out) | refine below_set ?_ GE481.out | refine below_set ?_ GE482.out) | exact HB.out)); rintro e w30 ⟨rfl, hi, hb, hk⟩; refine ⟨_, rfl, ?_⟩; replace BK481 := Aside0.mk (KeepBut.blk hk (g' := gb481) (o := .cells #[.int .i64 0, .int .i64 0, .bool false] 25 (0, 0)) (bP BK481) NB481_486.out (by simp)); replace BK482 := Aside0.mk (KeepBut.blk hk (g' := gb482) (o := .cells #[.int .i64 0, .int .i64 0, .bool false] 25 (0, 0)) (bP BK482) NB482_486.out (by simp)); replace HB := Aside0.mk (hb); replace HI486 := Aside0.mk (hi); (try clear hb)) | ((with_reducible refine gate_dst (N := 6) rfl ?_); refine bE 6 #[.int .i64 0, .int .i64 0, .bool false] 25 ?_; intro gb495 hg w31 hbox hb; have BK495 := Aside0.mk (hbox); have GW495 := Aside0.mk ((by rw [hg]; exact (below_size (by repeat (first | (with_reducible first | exact HB.out | apply below_alloc | apply pw_below_drewN | apply below_drew1 | refine below_set ?_ (IsS89.ge HI486.out) | refine below_set ?_ GE481.out | refine below_set ?_ GE482.out) | exact HB.out))) : w.heap.size ≤ gb495)); have GE495 := Aside0.mk ((by rw [hg]; exact (below_size (by repeat (first | (with_reducible first | exact HB.out | apply below_alloc | apply pw_below_drewN | apply below_drew1 | refine below_set ?_ (IsS89.ge HI486.out) | refine below_set ?_ GE481.out | refine below_set ?_ GE482.out) | exact HB.out))) : w.heap.size ≤ gb495)); replace HB := Aside0.mk (below_step (by repeat (first | (with_reducible first | exact HB.out | apply below_alloc | apply pw_below_drewN | apply below_drew1 | refine below_set ?_ (IsS89.ge HI486.out) | refine below_set ?_ GE481.out | refine below_set ?_ GE482.out) | exact HB.out)) hb); have NB481_495 := bL BK481 hg; have NB495_481 := bR BK481 hg; replace BK481 := bB BK481 hb; have NB482_495 := bL BK482 hg; have NB495_482 := bR BK482 hg; replace BK482 := bB BK482 hb; have NB486_495 := Aside0.mk ((by rw [hg]; exact Nat.ne_of_lt (IsS89.lt (show IsS89 w _ g486 t483 t493 t494 from by repeat (first | (with_reducible first | exact HI486.out | apply IsS89.alloc | apply IsS89.drewN | apply IsS89.drew | apply IsS89.set_1 | apply IsS89.set_2 | refine IsS89.far ?_ NB486_481.out _ | refine IsS89.far ?_ NB486_482.out _) | exact HI486.out))) : g486 ≠ gb495)); have NB495_486 := Aside0.mk ((by rw [hg]; exact Nat.ne_of_gt (IsS89.lt (show IsS89 w _ g486 t483 t493 t494 from by repeat (first | (with_reducible first | exact HI486.out | apply IsS89.alloc | apply IsS89.drewN | apply IsS89.drew | apply IsS89.set_1 | apply IsS89.set_2 | refine IsS89.far ?_ NB486_481.out _ | refine IsS89.far ?_ NB486_482.out _) | exact HI486.out))) : gb495 ≠ g486)); replace HI486 := Aside0.mk (IsS89.below (by repeat (first | (with_reducible first | exact HI486.out | apply IsS89.alloc | apply IsS89.drewN | apply IsS89.drew | apply IsS89.set_1 | apply IsS89.set_2 | refine IsS89.far ?_ NB486_481.out _ | refine IsS89.far ?_ NB486_482.out _) | exact HI486.out)) hb); clear hb hbox hg; obtain ⟨hnb32, hnc32⟩ := nB NB495_481; obtain ⟨hnb33, hnc33⟩ := nB NB495_482; obtain ⟨hnb34, hnc34⟩ := nB NB495_486; obtain ⟨hcz35_0, hcz35_1, hcz35_2, hfz35_0, hfz35_1, hfz35_2⟩ := bK3 (w := w31) BK495))
   obtain ⟨w36, hW_⟩ : ∃ W_ : World, W_ = (((w31.setCell ⟨gb495, 0, none⟩ (.int .i64 t490)).setCell ⟨gb495, 1, none⟩ (.int .i64 t491)).setCell ⟨gb495, 2, none⟩ (.bool t492)) := ⟨_, rfl⟩
   replace BK481 := bW hW_ BK481
   replace BK482 := bW hW_ BK482
   replace BK495 := bX hW_ 25 #[.int .i64 t490, .int .i64 t491, .bool t492] BK495
   have n3_ : Aside0 (IsS89 w (((w31.setCell ⟨gb495, 0, none⟩ (.int .i64 t490)).setCell ⟨gb495, 1, none⟩ (.int .i64 t491)).setCell ⟨gb495, 2, none⟩ (.bool t492)) g486 t483 t493 t494) := ⟨by repeat (first | (with_reducible first | exact HI486.out | apply IsS89.alloc | apply IsS89.drewN | apply IsS89.drew | apply IsS89.set_1 | apply IsS89.set_2 | refine IsS89.far ?_ NB486_481.out _ | refine IsS89.far ?_ NB486_482.out _ | refine IsS89.far ?_ NB486_495.out _) | exact HI486.out)⟩
   rw [← hW_] at n3_
   have n4_ : Aside0 (Below w.heap.size w (((w31.setCell ⟨gb495, 0, none⟩ (.int .i64 t490)).setCell ⟨gb495, 1, none⟩ (.int .i64 t491)).setCell ⟨gb495, 2, none⟩ (.bool t492))) := ⟨by repeat (first | (with_reducible first | exact HB.out | apply below_alloc | apply pw_below_drewN | apply below_drew1 | refine below_set ?_ (IsS89.ge HI486.out) | refine below_set ?_ GE481.out | refine below_set ?_ GE482.out | refine below_set ?_ GE495.out) | exact HB.out)⟩
   rw [← hW_] at n4_
   (try clear HI486)
   (try clear HB)
   have HI486 := n3_
   clear n3_
   have HB := n4_
   clear n4_
   rw [← hW_]
   clear hW_
   replace BK481 := Aside0.mk (blk_drew BK481.out)
   replace BK482 := Aside0.mk (blk_drew BK482.out)
   replace BK495 := Aside0.mk (blk_drew BK495.out)
   replace HI486 := Aside0.mk (IsS89.drew HI486.out)
   replace HB := Aside0.mk (below_drew1 HB.out)
   refine start_ (n := 5) (S := fun w' => SQ3 w' gb495 (.int .i64 t490) (.int .i64 t491) (.bool t492)) (ds := []) #[false, false, false, false, false] (by kernel_rfl) rfl rfl (bT3 BK495) (fun hHeld => ?_)
   generalize w36.drew = w37 at BK481 BK482 BK495 HI486 HB hHeld ⊢
   refine take_ (i := 0) (N := some 20) (v := ?_) (a' := ?_) #[true, false, false, false, false] rfl rfl (by kernel_rfl) (fun _ _ _ h => h) (Or.inl ⟨by rfl, ?_⟩) hHeld ?_ ?_
   rotate_left
   ·rintro w' ⟨s0, s1, s2⟩
    go_simp
    with_reducible rfl
   rotate_left
   ·simp only [Act.put, List.setIfInBounds_toArray, List.set_cons_zero, List.set_cons_succ, i64_w, i32_w]
    rfl
   refine take_ (i := 1) (N := some 21) (v := ?_) (a' := ?_) #[true, true, false, false, false] rfl rfl (by kernel_rfl) (fun _ _ _ h => h) (Or.inl ⟨by rfl, ?_⟩) hHeld ?_ ?_
   rotate_left
   ·rintro w' ⟨s0, s1, s2⟩
    go_simp
    with_reducible rfl
   rotate_left
   ·simp only [Act.put, List.setIfInBounds_toArray, List.set_cons_zero, List.set_cons_succ, i64_w, i32_w]
    rfl
   refine one_ (i := 2) (N := some 22) #[true, true, true, false, false] rfl rfl (by kernel_rfl) (by decide) (fun K hK => ?_)
   refine gO Try.func79 #[.agg #[.int .i64 t490, .int .i64 t491, .bool t492]] ?_
   with_reducible refine (spec_PointNeg.calls t490 t491 t492 t496 t497 t498 _ A25.out).mono ?_
   rintro e w38 ⟨rfl, hb⟩
   refine ⟨_, rfl, ?_⟩
   replace BK481 := bB BK481 hb
   replace BK482 := bB BK482 hb
   replace BK495 := bB BK495 hb
   replace HB := Aside0.mk (below_step (by repeat (first | (with_reducible first | exact HB.out | apply below_alloc | apply pw_below_drewN | apply below_drew1 | refine below_set ?_ (IsS89.ge HI486.out) | refine below_set ?_ GE481.out | refine below_set ?_ GE482.out | refine below_set ?_ GE495.out) | exact HB.out)) hb)
   replace HI486 := Aside0.mk (IsS89.below (by repeat (first | (with_reducible first | exact HI486.out | apply IsS89.alloc | apply IsS89.drewN | apply IsS89.drew | apply IsS89.set_1 | apply IsS89.set_2 | refine IsS89.far ?_ NB486_481.out _ | refine IsS89.far ?_ NB486_482.out _ | refine IsS89.far ?_ NB486_495.out _) | exact HI486.out)) hb)
   (try clear hb)
   refine hK.out _ _ (bT3 BK495) (fun hHeld => ?_)
   clear hK K
   refine nO (some 22) ?_
   refine one_ (i := 3) (N := none) #[true, true, true, true, false] rfl rfl (by kernel_rfl) (by decide) (fun K hK => ?_)
   have hs39 : w38.cell? ⟨gb481, 0, none⟩ = some (.int .i64 0) := bc BK481 0
   have hfs39 := blk_frozen BK481.out 0
   have hns39_1 := NB482_481.out
   have hns39_2 := NB495_481.out
   have hms39_1 := NB481_482.out
   have hms39_2 := NB481_495.out
   have hs40 : w38.cell? ⟨gb481, 1, none⟩ = some (.int .i64 0) := bc BK481 1
   have hfs40 := blk_frozen BK481.out 1
   have hns40_1 := NB482_481.out
   have hns40_2 := NB495_481.out
   have hms40_1 := NB481_482.out
   have hms40_2 := NB481_495.out
   have hs41 : w38.cell? ⟨gb481, 2, none⟩ = some (.bool false) := bc BK481 2
   have hfs41 := blk_frozen BK481.out 2
   have hns41_1 := NB482_481.out
   have hns41_2 := NB495_481.out
   have hms41_1 := NB481_482.out
   have hms41_2 := NB481_495.out
   refine skip_ (w1 := ?_) (by rfl) rfl ?_ ?_
   rotate_left
   ·go_simp
    rfl
   refine hK.out _ _ ⟨((cell_far (p := ⟨gb481, _, none⟩) NB495_481.out _).trans (((cell_far (p := ⟨gb481, _, none⟩) NB495_481.out _).trans (((cell_far (p := ⟨gb481, _, none⟩) NB495_481.out _).trans (hHeld.1)))))), ((cell_far (p := ⟨gb481, _, none⟩) NB495_481.out _).trans (((cell_far (p := ⟨gb481, _, none⟩) NB495_481.out _).trans (((cell_far (p := ⟨gb481, _, none⟩) NB495_481.out _).trans (hHeld.2.1)))))), ((cell_far (p := ⟨gb481, _, none⟩) NB495_481.out _).trans (((cell_far (p := ⟨gb481, _, none⟩) NB495_481.out _).trans (((cell_far (p := ⟨gb481, _, none⟩) NB495_481.out _).trans (hHeld.2.2))))))⟩ (fun hHeld => ?_)
   clear hK K
   refine one_ (i := 4) (N := none) #[true, true, true, true, true] rfl rfl (by kernel_rfl) (by decide) (fun K hK => ?_)
   have hs42 : w38.cell? ⟨gb482, 0, none⟩ = some (.int .i64 0) := bc BK482 0
   have hfs42 := blk_frozen BK482.out 0
   have hns42_0 := NB481_482.out
   have hns42_2 := NB495_482.out
   have hms42_0 := NB482_481.out
   have hms42_2 := NB482_495.out
   have hs43 : w38.cell? ⟨gb482, 1, none⟩ = some (.int .i64 0) := bc BK482 1
   have hfs43 := blk_frozen BK482.out 1
   have hns43_0 := NB481_482.out
   have hns43_2 := NB495_482.out
   have hms43_0 := NB482_481.out
   have hms43_2 := NB482_495.out
   have hs44 : w38.cell? ⟨gb482, 2, none⟩ = some (.bool false) := bc BK482 2
   have hfs44 := blk_frozen BK482.out 2
   have hns44_0 := NB481_482.out
   have hns44_2 := NB495_482.out
   have hms44_0 := NB482_481.out
   have hms44_2 := NB482_495.out
   refine skip_ (w1 := ?_) (by rfl) rfl ?_ ?_
   rotate_left
   ·go_simp
    rfl
   refine hK.out _ _ ⟨((cell_far (p := ⟨gb482, _, none⟩) NB495_482.out _).trans (((cell_far (p := ⟨gb482, _, none⟩) NB495_482.out _).trans (((cell_far (p := ⟨gb482, _, none⟩) NB495_482.out _).trans (hHeld.1)))))), ((cell_far (p := ⟨gb482, _, none⟩) NB495_482.out _).trans (((cell_far (p := ⟨gb482, _, none⟩) NB495_482.out _).trans (((cell_far (p := ⟨gb482, _, none⟩) NB495_482.out _).trans (hHeld.2.1)))))), ((cell_far (p := ⟨gb482, _, none⟩) NB495_482.out _).trans (((cell_far (p := ⟨gb482, _, none⟩) NB495_482.out _).trans (((cell_far (p := ⟨gb482, _, none⟩) NB495_482.out _).trans (hHeld.2.2))))))⟩ (fun hHeld => ?_)
   clear hK K
   refine done_ (by kernel_rfl) ?_
   try go_wp2
   refine bodyPost_ret (results_cc rfl _ _ gb481 gb482 25 25 #[.int .i64 t490, .int .i64 t491, .bool t492] #[.int .i64 t496, .int .i64 t497, .bool t498] (0, 0) (0, 0) _ _ rfl (bU BK481) Try.underlying25 rfl (by kernel_rfl) rfl (bU BK482) Try.underlying25 rfl (by kernel_rfl)) rfl ?_
   exact ⟨by first | rfl | (simp [errW_none, errW_some] <;> rfl) | (simp [*, errW_none, errW_some] <;> rfl), by repeat (first | (with_reducible first | exact HB.out | apply below_alloc | apply pw_below_drewN | apply below_drew1 | refine below_set ?_ (IsS89.ge HI486.out) | refine below_set ?_ GE481.out | refine below_set ?_ GE482.out | refine below_set ?_ GE495.out) | exact HB.out)⟩
  ·rw [if_neg c24] at H
   have c24b0 : (t487 == 1) = false := beq_eq_false_iff_ne.mpr c24
   have c24b1 : (t487 != 1) = true := bne_iff_ne.mpr c24
   replace H := Option.bind_eq_some_iff.mp H
   obtain ⟨⟨t499, t500, t501, t502, t503⟩, A450, H⟩ := H
   have A45 := Aside0.mk A450
   clear A450
   simp only [Option.some.injEq, Prod.mk.injEq] at H
   obtain ⟨rfl, rfl, rfl, rfl, rfl, rfl⟩ := H
   go_enter Try.func96, Try.ntmps96
   try go_wp2_with (first | ((with_reducible refine gate_dst (N := 2) rfl ?_); refine bE 2 #[.int .i64 0, .int .i64 0, .bool false] 25 ?_; intro gb481 hg w46 hbox hb; have BK481 := Aside0.mk (hbox); have GW481 := bG HB hg; have GE481 := bG HB hg; replace HB := bS HB hb; clear hb hbox hg) | ((with_reducible refine gate_dst (N := 3) rfl ?_); refine bE 3 #[.int .i64 0, .int .i64 0, .bool false] 25 ?_; intro gb482 hg w47 hbox hb; have BK482 := Aside0.mk (hbox); have GW482 := bG HB hg; have GE482 := bG HB hg; replace HB := bS HB hb; have NB481_482 := bL BK481 hg; have NB482_481 := bR BK481 hg; replace BK481 := bB BK481 hb; clear hb hbox hg) | ((with_reducible refine gate_callee (f := 59) rfl ?_); refine gL (some 8) Try.func59 #[.slice A0 l0.length c0] ?_; (with_reducible refine (spec_l01New.calls k _ _ l0 t483 t484 t485 w _ ?side1 ?side2 ?side3 A2.out).mono ?_); (case side1 => repeat (first | (with_reducible first | exact HB.out | apply below_alloc | apply pw_below_drewN | apply below_drew1 | refine below_set ?_ GE481.out | refine below_set ?_ GE482.out) | exact HB.out)); (case side2 => exact HR0.out); (case side3 => exact HC0.out); rintro e w48 ⟨g486, rfl, hi, hb, hb2⟩; refine ⟨_, rfl, ?_⟩; replace HB := Aside0.mk (hb); have HI486 := Aside0.mk (hi); have NB486_481 := Aside0.mk (IsS89.ne_blk hi (blk_below (bP BK481) hb2) (by decide)); have NB481_486 := Aside0.mk (Ne.symm (IsS89.ne_blk hi (blk_below (bP BK481) hb2) (by decide))); replace BK481 := Aside0.mk (blk_below (bP BK481) hb2); have NB486_482 := Aside0.mk (IsS89.ne_blk hi (blk_below (bP BK482) hb2) (by decide)); have NB482_486 := Aside0.mk (Ne.symm (IsS89.ne_blk hi (blk_below (bP BK482) hb2) (by decide))); replace BK482 := Aside0.mk (blk_below (bP BK482) hb2); (try clear hb)) | ((with_reducible refine gate_callee (f := 62) rfl ?_); refine gL (some 10) Try.func62 #[.pointer (some ⟨g486, 0, none⟩), .int .i64 5] ?_; (with_reducible refine (spec_l01Below.calls g486 t483 t484 t485 5 t487 t488 t489 w _ ?side1 ?side2 A3.out).mono ?_); (case side1 => repeat (first | (with_reducible first | exact HI486.out | apply IsS89.alloc | apply IsS89.drewN | apply IsS89.drew | apply IsS89.set_1 | apply IsS89.set_2 | refine IsS89.far ?_ NB486_481.out _ | refine IsS89.far ?_ NB486_482.out _) | exact HI486.out)); (case side2 => repeat (first | (with_reducible first | exact HB.out | apply below_alloc | apply pw_below_drewN | apply below_drew1 | refine below_set ?_ (IsS89.ge HI486.out) | refine below_set ?_ GE481.out | refine below_set ?_ GE482.out) | exact HB.out)); rintro e w49 ⟨rfl, hi, hb, hk⟩; refine ⟨_, rfl, ?_⟩; replace BK481 := Aside0.mk (KeepBut.blk hk (g' := gb481) (o := .cells #[.int .i64 0, .int .i64 0, .bool false] 25 (0, 0)) (bP BK481) NB481_486.out (by simp)); replace BK482 := Aside0.mk (KeepBut.blk hk (g' := gb482) (o := .cells #[.int .i64 0, .int .i64 0, .bool false] 25 (0, 0)) (bP BK482) NB482_486.out (by simp)); replace HB := Aside0.mk (hb); replace HI486 := Aside0.mk (hi); (try clear hb)) | ((with_reducible refine gate_callee (f := 90) rfl ?_); refine gL (some 12) Try.func90 #[.pointer (some ⟨g486, 0, none⟩)] ?_; (with_reducible refine (spec_l07Any.calls k g486 t483 t488 t489 t490 t491 t492 t493 t494 w _ ?side1 ?side2 A4.out).mono ?_); (case side1 => repeat (first | (with_reducible first | exact HI486.out | apply IsS89.alloc | apply IsS89.drewN | apply IsS89.drew | apply IsS89.set_1 | apply IsS89.set_2 | refine IsS89.far ?_ NB486_481.out _ | refine IsS89.far ?_ NB486_482.out _) | exact HI486.out)); (case side2 => repeat (first | (with_reducible first | exact HB.out | apply below_alloc | apply pw_below_drewN | apply below_drew1 | refine below_set ?_ (IsS89.ge HI486.out) | refine below_set ?_ GE481.out | refine below_set ?_ GE482.out) | exact HB.out)); rintro e w50 ⟨rfl, hi, hb, hk⟩; refine ⟨_, rfl, ?_⟩; replace BK481 := Aside0.mk (KeepBut.blk hk (g' := gb481) (o := .cells #[.int .i64 0, .int .i64 0, .bool false] 25 (0, 0)) (bP BK481) NB481_486.out (by simp)); replace BK482 := Aside0.mk (KeepBut.blk hk (g' := gb482) (o := .cells #[.int .i64 0, .int .i64 0, .bool false] 25 (0, 0)) (bP BK482) NB482_486.out (by simp)); replace HB := Aside0.mk (hb); replace HI486 := Aside0.mk (hi); (try clear hb)) | ((with_reducible refine gate_dst (N := 6) rfl ?_); refine bE 6 #[.int .i64 0, .int .i64 0, .bool false] 25 ?_; intro gb495 hg w51 hbox hb; have BK495 := Aside0.mk (hbox); have GW495 := Aside0.mk ((by rw [hg]; exact (below_size (by repeat (first | (with_reducible first | exact HB.out | apply below_alloc | apply pw_below_drewN | apply below_drew1 | refine below_set ?_ (IsS89.ge HI486.out) | refine below_set ?_ GE481.out | refine below_set ?_ GE482.out) | exact HB.out))) : w.heap.size ≤ gb495)); have GE495 := Aside0.mk ((by rw [hg]; exact (below_size (by repeat (first | (with_reducible first | exact HB.out | apply below_alloc | apply pw_below_drewN | apply below_drew1 | refine below_set ?_ (IsS89.ge HI486.out) | refine below_set ?_ GE481.out | refine below_set ?_ GE482.out) | exact HB.out))) : w.heap.size ≤ gb495)); replace HB := Aside0.mk (below_step (by repeat (first | (with_reducible first | exact HB.out | apply below_alloc | apply pw_below_drewN | apply below_drew1 | refine below_set ?_ (IsS89.ge HI486.out) | refine below_set ?_ GE481.out | refine below_set ?_ GE482.out) | exact HB.out)) hb); have NB481_495 := bL BK481 hg; have NB495_481 := bR BK481 hg; replace BK481 := bB BK481 hb; have NB482_495 := bL BK482 hg; have NB495_482 := bR BK482 hg; replace BK482 := bB BK482 hb; have NB486_495 := Aside0.mk ((by rw [hg]; exact Nat.ne_of_lt (IsS89.lt (show IsS89 w _ g486 t483 t493 t494 from by repeat (first | (with_reducible first | exact HI486.out | apply IsS89.alloc | apply IsS89.drewN | apply IsS89.drew | apply IsS89.set_1 | apply IsS89.set_2 | refine IsS89.far ?_ NB486_481.out _ | refine IsS89.far ?_ NB486_482.out _) | exact HI486.out))) : g486 ≠ gb495)); have NB495_486 := Aside0.mk ((by rw [hg]; exact Nat.ne_of_gt (IsS89.lt (show IsS89 w _ g486 t483 t493 t494 from by repeat (first | (with_reducible first | exact HI486.out | apply IsS89.alloc | apply IsS89.drewN | apply IsS89.drew | apply IsS89.set_1 | apply IsS89.set_2 | refine IsS89.far ?_ NB486_481.out _ | refine IsS89.far ?_ NB486_482.out _) | exact HI486.out))) : gb495 ≠ g486)); replace HI486 := Aside0.mk (IsS89.below (by repeat (first | (with_reducible first | exact HI486.out | apply IsS89.alloc | apply IsS89.drewN | apply IsS89.drew | apply IsS89.set_1 | apply IsS89.set_2 | refine IsS89.far ?_ NB486_481.out _ | refine IsS89.far ?_ NB486_482.out _) | exact HI486.out)) hb); clear hb hbox hg; obtain ⟨hnb52, hnc52⟩ := nB NB495_481; obtain ⟨hnb53, hnc53⟩ := nB NB495_482; obtain ⟨hnb54, hnc54⟩ := nB NB495_486; obtain ⟨hcz55_0, hcz55_1, hcz55_2, hfz55_0, hfz55_1, hfz55_2⟩ := bK3 (w := w51) BK495))
   obtain ⟨w56, hW_⟩ : ∃ W_ : World, W_ = (((w51.setCell ⟨gb495, 0, none⟩ (.int .i64 t490)).setCell ⟨gb495, 1, none⟩ (.int .i64 t491)).setCell ⟨gb495, 2, none⟩ (.bool t492)) := ⟨_, rfl⟩
   replace BK481 := bW hW_ BK481
   replace BK482 := bW hW_ BK482
   replace BK495 := bX hW_ 25 #[.int .i64 t490, .int .i64 t491, .bool t492] BK495
   have n3_ : Aside0 (IsS89 w (((w51.setCell ⟨gb495, 0, none⟩ (.int .i64 t490)).setCell ⟨gb495, 1, none⟩ (.int .i64 t491)).setCell ⟨gb495, 2, none⟩ (.bool t492)) g486 t483 t493 t494) := ⟨by repeat (first | (with_reducible first | exact HI486.out | apply IsS89.alloc | apply IsS89.drewN | apply IsS89.drew | apply IsS89.set_1 | apply IsS89.set_2 | refine IsS89.far ?_ NB486_481.out _ | refine IsS89.far ?_ NB486_482.out _ | refine IsS89.far ?_ NB486_495.out _) | exact HI486.out)⟩
   rw [← hW_] at n3_
   have n4_ : Aside0 (Below w.heap.size w (((w51.setCell ⟨gb495, 0, none⟩ (.int .i64 t490)).setCell ⟨gb495, 1, none⟩ (.int .i64 t491)).setCell ⟨gb495, 2, none⟩ (.bool t492))) := ⟨by repeat (first | (with_reducible first | exact HB.out | apply below_alloc | apply pw_below_drewN | apply below_drew1 | refine below_set ?_ (IsS89.ge HI486.out) | refine below_set ?_ GE481.out | refine below_set ?_ GE482.out | refine below_set ?_ GE495.out) | exact HB.out)⟩
   rw [← hW_] at n4_
   (try clear HI486)
   (try clear HB)
   have HI486 := n3_
   clear n3_
   have HB := n4_
   clear n4_
   rw [← hW_]
   clear hW_
   replace BK481 := Aside0.mk (blk_drew BK481.out)
   replace BK482 := Aside0.mk (blk_drew BK482.out)
   replace BK495 := Aside0.mk (blk_drew BK495.out)
   replace HI486 := Aside0.mk (IsS89.drew HI486.out)
   replace HB := Aside0.mk (below_drew1 HB.out)
   refine start_ (n := 5) (S := fun w' => SQ3 w' gb495 (.int .i64 t490) (.int .i64 t491) (.bool t492)) (ds := []) #[false, false, false, false, false] (by kernel_rfl) rfl rfl (bT3 BK495) (fun hHeld => ?_)
   generalize w56.drew = w57 at BK481 BK482 BK495 HI486 HB hHeld ⊢
   refine pure_ (i := 1) (N := some 24) (v := ?_) (a' := ?_) #[false, true, false, false, false] rfl rfl (by kernel_rfl) (fun _ _ _ h => h) (Or.inl ⟨by rfl, ?_⟩) ?_ ?_
   rotate_left
   ·intro w'
    go_simp
    with_reducible rfl
   rotate_left
   ·simp only [Act.put, List.setIfInBounds_toArray, List.set_cons_zero, List.set_cons_succ, i64_w, i32_w]
    rfl
   refine take_ (i := 0) (N := some 23) (v := ?_) (a' := ?_) #[true, true, false, false, false] rfl rfl (by kernel_rfl) (fun _ _ _ h => h) (Or.inl ⟨by rfl, ?_⟩) hHeld ?_ ?_
   rotate_left
   ·rintro w' ⟨s0, s1, s2⟩
    go_simp
    with_reducible rfl
   rotate_left
   ·simp only [Act.put, List.setIfInBounds_toArray, List.set_cons_zero, List.set_cons_succ, i64_w, i32_w]
    rfl
   refine one_ (i := 2) (N := some 25) #[true, true, true, false, false] rfl rfl (by kernel_rfl) (by decide) (fun K hK => ?_)
   refine gO Try.func90 #[.pointer (some ⟨g486, 0, none⟩)] ?_
   with_reducible refine (spec_l07Any.calls k g486 t483 t493 t494 t499 t500 t501 t502 t503 w _ ?side1 ?side2 A45.out).mono ?_
   (case side1 => repeat (first | (with_reducible first | exact HI486.out | apply IsS89.alloc | apply IsS89.drewN | apply IsS89.drew | apply IsS89.set_1 | apply IsS89.set_2 | refine IsS89.far ?_ NB486_481.out _ | refine IsS89.far ?_ NB486_482.out _ | refine IsS89.far ?_ NB486_495.out _) | exact HI486.out))
   (case side2 => repeat (first | (with_reducible first | exact HB.out | apply below_alloc | apply pw_below_drewN | apply below_drew1 | refine below_set ?_ (IsS89.ge HI486.out) | refine below_set ?_ GE481.out | refine below_set ?_ GE482.out | refine below_set ?_ GE495.out) | exact HB.out))
   rintro e w58 ⟨rfl, hi, hb, hk⟩
   refine ⟨_, rfl, ?_⟩
   replace BK481 := Aside0.mk (KeepBut.blk hk (g' := gb481) (o := .cells #[.int .i64 0, .int .i64 0, .bool false] 25 (0, 0)) (bP BK481) NB481_486.out (by simp))
   replace BK482 := Aside0.mk (KeepBut.blk hk (g' := gb482) (o := .cells #[.int .i64 0, .int .i64 0, .bool false] 25 (0, 0)) (bP BK482) NB482_486.out (by simp))
   replace BK495 := Aside0.mk (KeepBut.blk hk (g' := gb495) (o := .cells #[.int .i64 t490, .int .i64 t491, .bool t492] 25 (0, 0)) (bP BK495) NB495_486.out (by simp))
   replace HB := Aside0.mk (hb)
   replace HI486 := Aside0.mk (hi)
   (try clear hb)
   refine hK.out _ _ (bT3 BK495) (fun hHeld => ?_)
   clear hK K
   refine nO (some 25) ?_
   refine one_ (i := 3) (N := none) #[true, true, true, true, false] rfl rfl (by kernel_rfl) (by decide) (fun K hK => ?_)
   have hs59 : w58.cell? ⟨gb481, 0, none⟩ = some (.int .i64 0) := bc BK481 0
   have hfs59 := blk_frozen BK481.out 0
   have hns59_1 := NB482_481.out
   have hns59_2 := NB495_481.out
   have hms59_1 := NB481_482.out
   have hms59_2 := NB481_495.out
   have hs60 : w58.cell? ⟨gb481, 1, none⟩ = some (.int .i64 0) := bc BK481 1
   have hfs60 := blk_frozen BK481.out 1
   have hns60_1 := NB482_481.out
   have hns60_2 := NB495_481.out
   have hms60_1 := NB481_482.out
   have hms60_2 := NB481_495.out
   have hs61 : w58.cell? ⟨gb481, 2, none⟩ = some (.bool false) := bc BK481 2
   have hfs61 := blk_frozen BK481.out 2
   have hns61_1 := NB482_481.out
   have hns61_2 := NB495_481.out
   have hms61_1 := NB481_482.out
   have hms61_2 := NB481_495.out
   refine skip_ (w1 := ?_) (by rfl) rfl ?_ ?_
   rotate_left
   ·go_simp
    rfl
   refine hK.out _ _ ⟨((cell_far (p := ⟨gb481, _, none⟩) NB495_481.out _).trans (((cell_far (p := ⟨gb481, _, none⟩) NB495_481.out _).trans (((cell_far (p := ⟨gb481, _, none⟩) NB495_481.out _).trans (hHeld.1)))))), ((cell_far (p := ⟨gb481, _, none⟩) NB495_481.out _).trans (((cell_far (p := ⟨gb481, _, none⟩) NB495_481.out _).trans (((cell_far (p := ⟨gb481, _, none⟩) NB495_481.out _).trans (hHeld.2.1)))))), ((cell_far (p := ⟨gb481, _, none⟩) NB495_481.out _).trans (((cell_far (p := ⟨gb481, _, none⟩) NB495_481.out _).trans (((cell_far (p := ⟨gb481, _, none⟩) NB495_481.out _).trans (hHeld.2.2))))))⟩ (fun hHeld => ?_)
   clear hK K
   refine one_ (i := 4) (N := none) #[true, true, true, true, true] rfl rfl (by kernel_rfl) (by decide) (fun K hK => ?_)
   have hs62 : w58.cell? ⟨gb482, 0, none⟩ = some (.int .i64 0) := bc BK482 0
   have hfs62 := blk_frozen BK482.out 0
   have hns62_0 := NB481_482.out
   have hns62_2 := NB495_482.out
   have hms62_0 := NB482_481.out
   have hms62_2 := NB482_495.out
   have hs63 : w58.cell? ⟨gb482, 1, none⟩ = some (.int .i64 0) := bc BK482 1
   have hfs63 := blk_frozen BK482.out 1
   have hns63_0 := NB481_482.out
   have hns63_2 := NB495_482.out
   have hms63_0 := NB482_481.out
   have hms63_2 := NB482_495.out
   have hs64 : w58.cell? ⟨gb482, 2, none⟩ = some (.bool false) := bc BK482 2
   have hfs64 := blk_frozen BK482.out 2
   have hns64_0 := NB481_482.out
   have hns64_2 := NB495_482.out
   have hms64_0 := NB482_481.out
   have hms64_2 := NB482_495.out
   refine skip_ (w1 := ?_) (by rfl) rfl ?_ ?_
   rotate_left
   ·go_simp
    rfl
   refine hK.out _ _ ⟨((cell_far (p := ⟨gb482, _, none⟩) NB495_482.out _).trans (((cell_far (p := ⟨gb482, _, none⟩) NB495_482.out _).trans (((cell_far (p := ⟨gb482, _, none⟩) NB495_482.out _).trans (hHeld.1)))))), ((cell_far (p := ⟨gb482, _, none⟩) NB495_482.out _).trans (((cell_far (p := ⟨gb482, _, none⟩) NB495_482.out _).trans (((cell_far (p := ⟨gb482, _, none⟩) NB495_482.out _).trans (hHeld.2.1)))))), ((cell_far (p := ⟨gb482, _, none⟩) NB495_482.out _).trans (((cell_far (p := ⟨gb482, _, none⟩) NB495_482.out _).trans (((cell_far (p := ⟨gb482, _, none⟩) NB495_482.out _).trans (hHeld.2.2))))))⟩ (fun hHeld => ?_)
   clear hK K
   refine done_ (by kernel_rfl) ?_
   try go_wp2
   refine bodyPost_ret (results_cc rfl _ _ gb481 gb482 25 25 #[.int .i64 t490, .int .i64 t491, .bool t492] #[.int .i64 t499, .int .i64 t500, .bool t501] (0, 0) (0, 0) _ _ rfl (bU BK481) Try.underlying25 rfl (by kernel_rfl) rfl (bU BK482) Try.underlying25 rfl (by kernel_rfl)) rfl ?_
   exact ⟨by first | rfl | (simp [errW_none, errW_some] <;> rfl) | (simp [*, errW_none, errW_some] <;> rfl), by repeat (first | (with_reducible first | exact HB.out | apply below_alloc | apply pw_below_drewN | apply below_drew1 | refine below_set ?_ (IsS89.ge HI486.out) | refine below_set ?_ GE481.out | refine below_set ?_ GE482.out | refine below_set ?_ GE495.out) | exact HB.out)⟩
/-! ### spec_DrawPointAdd: function 48 -/
def spec_DrawPointAdd.f (k : Nat) (l0 : List Int) : Option (Int × Int × Bool × Int × Int × Bool) := (spec_l07Pair.f k l0).bind fun bt506 => (some (bt506.1, bt506.2.1, bt506.2.2.1, bt506.2.2.2.1, bt506.2.2.2.2.1, bt506.2.2.2.2.2))
theorem spec_DrawPointAdd.mono : ∀ a0 k, LeO (spec_DrawPointAdd.f k a0) (spec_DrawPointAdd.f (k + 1) a0) := by
 intro a0 k
 unfold spec_DrawPointAdd.f
 repeat' first
   | (with_reducible exact spec_l07Pair.mono _ _)
   | (with_reducible exact LeO.refl _)
   | (with_reducible exact LeO.none _)
   | (with_reducible refine LeO.ite ?_ ?_)
   | (with_reducible refine LeO.bind ?_ (fun _ => ?_))
   | exact spec_l07Pair.mono _ _
   | exact LeO.none _
   | refine LeO.ite ?_ ?_
   | refine LeO.bind ?_ (fun _ => ?_)
set_option maxHeartbeats 8000000 in
set_option maxRecDepth 100000 in
theorem spec_DrawPointAdd.calls (k : Nat) (A0 : Option Addr) (c0 : Nat) (l0 : List Int) (r1 : Int) (r2 : Int) (r3 : Bool) (r4 : Int) (r5 : Int) (r6 : Bool) (w : World) (hr0 : Kd.C (Kd.int .u8) w A0 l0.length l0) (hc0 : l0.length ≤ c0) (h : spec_DrawPointAdd.f k l0 = some (r1, r2, r3, r4, r5, r6)) :
  Calls Try.prog 48 #[.slice A0 l0.length c0] w fun e w' => e = .returned (.tuple #[.agg #[.int .i64 r1, .int .i64 r2, .bool r3], .agg #[.int .i64 r4, .int .i64 r5, .bool r6]]) ∧ Below w.heap.size w w' := by
 have hu25 := Try.underlying25
 have HR0 := Aside0.mk hr0
 have HC0 := Aside0.mk hc0
 clear hr0 hc0
 have HB := Aside0.mk (Below.refl w.heap.size w)
 have H : ((spec_l07Pair.f k l0).bind fun bt506 => (some (bt506.1, bt506.2.1, bt506.2.2.1, bt506.2.2.2.1, bt506.2.2.2.2.1, bt506.2.2.2.2.2))) = some (r1, r2, r3, r4, r5, r6) := h
 clear h
 replace H := Option.bind_eq_some_iff.mp H
 obtain ⟨⟨t506, t507, t508, t509, t510, t511⟩, A20, H⟩ := H
 have A2 := Aside0.mk A20
 clear A20
 simp only [Option.some.injEq, Prod.mk.injEq] at H
 obtain ⟨rfl, rfl, rfl, rfl, rfl, rfl⟩ := H
 go_enter Try.func48, Try.ntmps48
 go_wp2_with (first | ((with_reducible refine gate_dst (N := 2) rfl ?_); refine bE 2 #[.int .i64 0, .int .i64 0, .bool false] 25 ?_; intro gb504 hg w3 hbox hb; have BK504 := Aside0.mk (hbox); have GW504 := bG HB hg; have GE504 := bG HB hg; replace HB := bS HB hb; clear hb hbox hg) | ((with_reducible refine gate_dst (N := 3) rfl ?_); refine bE 3 #[.int .i64 0, .int .i64 0, .bool false] 25 ?_; intro gb505 hg w4 hbox hb; have BK505 := Aside0.mk (hbox); have GW505 := bG HB hg; have GE505 := bG HB hg; replace HB := bS HB hb; have NB504_505 := bL BK504 hg; have NB505_504 := bR BK504 hg; replace BK504 := bB BK504 hb; clear hb hbox hg) | ((with_reducible refine gate_callee (f := 96) rfl ?_); refine gL (some 5) Try.func96 #[.slice A0 l0.length c0] ?_; (with_reducible refine (spec_l07Pair.calls k _ _ l0 t506 t507 t508 t509 t510 t511 _ ?side1 ?side2 A2.out).mono ?_); (case side1 => exact cP (Kd.C_below HR0.out HB.out)); (case side2 => exact HC0.out); rintro e w5 ⟨rfl, hb⟩; refine ⟨_, rfl, ?_⟩; replace BK504 := bB BK504 hb; replace BK505 := bB BK505 hb; replace HB := bS HB hb; (try clear hb); obtain ⟨hnb6, hnc6⟩ := nB NB504_505; obtain ⟨hcz7_0, hcz7_1, hcz7_2, hfz7_0, hfz7_1, hfz7_2⟩ := bK3 (w := w5) BK504; obtain ⟨hcz8_0, hcz8_1, hcz8_2, hfz8_0, hfz8_1, hfz8_2⟩ := bK3 (w := w5) BK505))
 refine bodyPost_ret (results_cc rfl _ _ gb504 gb505 25 25 #[.int .i64 t506, .int .i64 t507, .bool t508] #[.int .i64 t509, .int .i64 t510, .bool t511] (0, 0) (0, 0) _ _ rfl (bU BK504) Try.underlying25 rfl (by kernel_rfl) rfl (bU BK505) Try.underlying25 rfl (by kernel_rfl)) rfl ?_
 exact ⟨rR, bZ HB⟩
/-! ### spec_DrawPointTimes: function 49 -/
def spec_DrawPointTimes.f (k : Nat) (l0 : List Int) : Option (Int × Int × Int × Bool) := (spec_l01New.f k l0).bind fun bt513 => ((spec_l01PickInt.f bt513.1 bt513.2.1 bt513.2.2 (([0, 1, 2, (-1), 1009, 12108, 12109, (-9223372036854775808), 9223372036854775807, 77] : List Int))).bind fun bt520 => ((spec_l07Any.f k bt513.1 bt520.2.1 bt520.2.2).bind fun bt523 => (some (bt520.1, bt523.1, bt523.2.1, bt523.2.2.1))))
theorem spec_DrawPointTimes.mono : ∀ a0 k, LeO (spec_DrawPointTimes.f k a0) (spec_DrawPointTimes.f (k + 1) a0) := by
 intro a0 k
 unfold spec_DrawPointTimes.f
 repeat' first
   | (with_reducible exact spec_l01New.mono _ _)
   | (with_reducible exact spec_l07Any.mono _ _ _ _)
   | (with_reducible exact LeO.refl _)
   | (with_reducible exact LeO.none _)
   | (with_reducible refine LeO.ite ?_ ?_)
   | (with_reducible refine LeO.bind ?_ (fun _ => ?_))
   | exact spec_l01New.mono _ _
   | exact spec_l07Any.mono _ _ _ _
   | exact LeO.none _
   | refine LeO.ite ?_ ?_
   | refine LeO.bind ?_ (fun _ => ?_)
set_option maxHeartbeats 8000000 in
set_option maxRecDepth 100000 in
theorem spec_DrawPointTimes.calls (k : Nat) (A0 : Option Addr) (c0 : Nat) (l0 : List Int) (r1 : Int) (r2 : Int) (r3 : Int) (r4 : Bool) (w : World) (hr0 : Kd.C (Kd.int .u8) w A0 l0.length l0) (hc0 : l0.length ≤ c0) (h : spec_DrawPointTimes.f k l0 = some (r1, r2, r3, r4)) :
  Calls Try.prog 49 #[.slice A0 l0.length c0] w fun e w' => e = .returned (.tuple #[.int .i64 r1, .agg #[.int .i64 r2, .int .i64 r3, .bool r4]]) ∧ Below w.heap.size w w' := by
 have hu25 := Try.underlying25
 have HR0 := Aside0.mk hr0
 have HC0 := Aside0.mk hc0
 clear hr0 hc0
 have HB := Aside0.mk (Below.refl w.heap.size w)
 have H : ((spec_l01New.f k l0).bind fun bt513 => ((spec_l01PickInt.f bt513.1 bt513.2.1 bt513.2.2 (([0, 1, 2, (-1), 1009, 12108, 12109, (-9223372036854775808), 9223372036854775807, 77] : List Int))).bind fun bt520 => ((spec_l07Any.f k bt513.1 bt520.2.1 bt520.2.2).bind fun bt523 => (some (bt520.1, bt523.1, bt523.2.1, bt523.2.2.1))))) = some (r1, r2, r3, r4) := h
 clear h
 replace H := Option.bind_eq_some_iff.mp H
 obtain ⟨⟨t513, t514, t515⟩, A20, H⟩ := H
 have A2 := Aside0.mk A20
 clear A20
 obtain ⟨y517, hy517⟩ : ∃ y_ : List Int, y_ = (([0, 1, 2, (-1), 1009, 12108, 12109, (-9223372036854775808), 9223372036854775807, 77] : List Int)) := ⟨_, rfl⟩
 replace H : ((spec_l01PickInt.f t513 t514 t515 y517).bind fun bt520 => ((spec_l07Any.f k t513 bt520.2.1 bt520.2.2).bind fun bt523 => (some (bt520.1, bt523.1, bt523.2.1, bt523.2.2.1)))) = some (r1, r2, r3, r4) := by first | (rw [hy517]; with_reducible exact H) | (have H2_ := (Option.bind_some _ _).symm.trans H; rw [hy517]; with_reducible exact H2_) | (have H2_ := (Option.bind_some _ _).symm.trans H; with_reducible exact H2_) | with_reducible exact H | (rw [hy517]; exact H) | exact H
 have Ny517 := Aside0.mk hy517
 clear hy517
 replace H := Option.bind_eq_some_iff.mp H
 obtain ⟨⟨t520, t521, t522⟩, A30, H⟩ := H
 have A3 := Aside0.mk A30
 clear A30
 replace H := Option.bind_eq_some_iff.mp H
 obtain ⟨⟨t523, t524, t525, t526, t527⟩, A40, H⟩ := H
 have A4 := Aside0.mk A40
 clear A40
 simp only [Option.some.injEq, Prod.mk.injEq] at H
 obtain ⟨rfl, rfl, rfl, rfl⟩ := H
 go_enter Try.func49, Try.ntmps49
 go_wp2_with (first | ((with_reducible refine gate_dst (N := 3) rfl ?_); refine bE 3 #[.int .i64 0, .int .i64 0, .bool false] 25 ?_; intro gb512 hg w5 hbox hb; have BK512 := Aside0.mk (hbox); have GW512 := bG HB hg; have GE512 := bG HB hg; replace HB := bS HB hb; clear hb hbox hg) | ((with_reducible refine gate_callee (f := 59) rfl ?_); refine gL (some 7) Try.func59 #[.slice A0 l0.length c0] ?_; (with_reducible refine (spec_l01New.calls k _ _ l0 t513 t514 t515 w _ ?side1 ?side2 ?side3 A2.out).mono ?_); (case side1 => repeat (first | (with_reducible first | exact HB.out | apply below_alloc | apply pw_below_drewN | apply below_drew1 | refine below_set ?_ GE512.out) | exact HB.out)); (case side2 => exact HR0.out); (case side3 => exact HC0.out); rintro e w6 ⟨g516, rfl, hi, hb, hb2⟩; refine ⟨_, rfl, ?_⟩; replace HB := Aside0.mk (hb); have HI516 := Aside0.mk (hi); have NB516_512 := Aside0.mk (IsS89.ne_blk hi (blk_below (bP BK512) hb2) (by decide)); have NB512_516 := Aside0.mk (Ne.symm (IsS89.ne_blk hi (blk_below (bP BK512) hb2) (by decide))); replace BK512 := Aside0.mk (blk_below (bP BK512) hb2); (try clear hb)) | ((with_reducible refine gate_dst (N := 9) rfl ?_); refine Kd.R_lit (Kd.int .i64) _ 3 ?hg (N := 9) ?hd (xs := ([0, 1, 2, (-1), 1009, 12108, 12109, (-9223372036854775808), 9223372036854775807, 77] : List Int)) (inner := [.int .i64 0, .int .i64 1, .int .i64 2, .int .i64 (-1), .int .i64 1009, .int .i64 12108, .int .i64 12109, .int .i64 (-9223372036854775808), .int .i64 9223372036854775807, .int .i64 77]) (ok := fun _ => True) (okp := fun _ => True) ?hr ?hp (fun _ hk => hk) trivial (Below.refl _ _) (Nat.le_refl _) (by simp) ?_; (case hd => rfl); (case hg => rfl); (case hr => first | (go_simp; done) | (go_simp; rfl)); (case hp => exact (Reps.one (show Kd.M (Kd.int .i64) _ _ _ 0 [.int .i64 0] from rfl) (Reps.one (show Kd.M (Kd.int .i64) _ _ _ 1 [.int .i64 1] from rfl) (Reps.one (show Kd.M (Kd.int .i64) _ _ _ 2 [.int .i64 2] from rfl) (Reps.one (show Kd.M (Kd.int .i64) _ _ _ (-1) [.int .i64 (-1)] from rfl) (Reps.one (show Kd.M (Kd.int .i64) _ _ _ 1009 [.int .i64 1009] from rfl) (Reps.one (show Kd.M (Kd.int .i64) _ _ _ 12108 [.int .i64 12108] from rfl) (Reps.one (show Kd.M (Kd.int .i64) _ _ _ 12109 [.int .i64 12109] from rfl) (Reps.one (show Kd.M (Kd.int .i64) _ _ _ (-9223372036854775808) [.int .i64 (-9223372036854775808)] from rfl) (Reps.one (show Kd.M (Kd.int .i64) _ _ _ 9223372036854775807 [.int .i64 9223372036854775807] from rfl) (Reps.one (show Kd.M (Kd.int .i64) _ _ _ 77 [.int .i64 77] from rfl) (Reps.none _ _)))))))))))); intro v518 w7 ho8 hb hg_ hnew_; clear hg_ hnew_; (first | rw [← Ny517.out] at ho8 | (simp only [Int.reduceToNat] at ho8; rw [← Ny517.out] at ho8)); have HO519 := Aside0.mk (Kd.R_lower ho8 (below_size (by repeat (first | (with_reducible first | exact HB.out | apply below_alloc | apply pw_below_drewN | apply below_drew1 | refine below_set ?_ (IsS89.ge HI516.out) | refine below_set ?_ GE512.out) | exact HB.out)))); replace BK512 := bB BK512 hb; replace HB := Aside0.mk (below_step (by repeat (first | (with_reducible first | exact HB.out | apply below_alloc | apply pw_below_drewN | apply below_drew1 | refine below_set ?_ (IsS89.ge HI516.out) | refine below_set ?_ GE512.out) | exact HB.out)) hb); replace HI516 := Aside0.mk (IsS89.below (by repeat (first | (with_reducible first | exact HI516.out | apply IsS89.alloc | apply IsS89.drewN | apply IsS89.drew | apply IsS89.set_1 | apply IsS89.set_2 | refine IsS89.far ?_ NB516_512.out _) | exact HI516.out)) hb); clear hb ho8; obtain ⟨Ao9, co9, eo9⟩ := Kd.R_slice HO519.out; subst eo9) | ((with_reducible refine gate_callee (f := 97) rfl ?_); refine gL (some 10) Try.func97 #[.pointer (some ⟨g516, 0, none⟩), .slice Ao9 y517.length co9] ?_; (with_reducible refine (spec_l01PickInt.calls g516 t513 t514 t515 _ _ y517 t520 t521 t522 w _ ?side1 ?side2 ?side3 ?side4 ?side5 A3.out).mono ?_); (case side1 => repeat (first | (with_reducible first | exact HI516.out | apply IsS89.alloc | apply IsS89.drewN | apply IsS89.drew | apply IsS89.set_1 | apply IsS89.set_2 | refine IsS89.far ?_ NB516_512.out _) | exact HI516.out)); (case side2 => repeat (first | (with_reducible first | exact HB.out | apply below_alloc | apply pw_below_drewN | apply below_drew1 | refine below_set ?_ (IsS89.ge HI516.out) | refine below_set ?_ GE512.out) | exact HB.out)); (case side3 => exact cP ((Kd.R_reads' HO519.out).2.2)); (case side4 => exact (Kd.R_reads' HO519.out).2.1); (case side5 => exact far_slice (IsS89.own_ne HI516.out HO519.out (by decide))); rintro e w10 ⟨rfl, hi, hb, hk⟩; refine ⟨_, rfl, ?_⟩; replace BK512 := Aside0.mk (KeepBut.blk hk (g' := gb512) (o := .cells #[.int .i64 0, .int .i64 0, .bool false] 25 (0, 0)) (bP BK512) NB512_516.out (by simp)); replace HO519 := Aside0.mk (Kd.R_mono (Kd.R_keep (IsS89.apart (show IsS89 w _ g516 t513 t514 t515 from by repeat (first | (with_reducible first | exact HI516.out | apply IsS89.alloc | apply IsS89.drewN | apply IsS89.drew | apply IsS89.set_1 | apply IsS89.set_2 | refine IsS89.far ?_ NB516_512.out _) | exact HI516.out)) (rP HO519) (by decide)) hk (fun _ h => h.2)) (fun _ h => h.1)); replace HB := Aside0.mk (hb); replace HI516 := Aside0.mk (hi); (try clear hb)) | ((with_reducible refine gate_callee (f := 90) rfl ?_); refine gL (some 13) Try.func90 #[.pointer (some ⟨g516, 0, none⟩)] ?_; (with_reducible refine (spec_l07Any.calls k g516 t513 t521 t522 t523 t524 t525 t526 t527 w _ ?side1 ?side2 A4.out).mono ?_); (case side1 => repeat (first | (with_reducible first | exact HI516.out | apply IsS89.alloc | apply IsS89.drewN | apply IsS89.drew | apply IsS89.set_1 | apply IsS89.set_2 | refine IsS89.far ?_ NB516_512.out _) | exact HI516.out)); (case side2 => repeat (first | (with_reducible first | exact HB.out | apply below_alloc | apply pw_below_drewN | apply below_drew1 | refine below_set ?_ (IsS89.ge HI516.out) | refine below_set ?_ GE512.out) | exact HB.out)); rintro e w11 ⟨rfl, hi, hb, hk⟩; refine ⟨_, rfl, ?_⟩; replace BK512 := Aside0.mk (KeepBut.blk hk (g' := gb512) (o := .cells #[.int .i64 0, .int .i64 0, .bool false] 25 (0, 0)) (bP BK512) NB512_516.out (by simp)); replace HO519 := Aside0.mk (Kd.R_mono (Kd.R_keep (IsS89.apart (show IsS89 w _ g516 t513 t521 t522 from by repeat (first | (with_reducible first | exact HI516.out | apply IsS89.alloc | apply IsS89.drewN | apply IsS89.drew | apply IsS89.set_1 | apply IsS89.set_2 | refine IsS89.far ?_ NB516_512.out _) | exact HI516.out)) (rP HO519) (by decide)) hk (fun _ h => h.2)) (fun _ h => h.1)); replace HB := Aside0.mk (hb); replace HI516 := Aside0.mk (hi); (try clear hb); obtain ⟨hnb12, hnc12⟩ := nB NB512_516; obtain ⟨hcz13_0, hcz13_1, hcz13_2, hfz13_0, hfz13_1, hfz13_2⟩ := bK3 (w := w11) BK512))
 refine bodyPost_ret (results_tc rfl _ _ gb512 25 #[.int .i64 t523, .int .i64 t524, .bool t525] (0, 0) _ rfl (bU BK512) Try.underlying25 rfl (by kernel_rfl)) rfl ?_
 exact ⟨by first | rfl | (simp [errW_none, errW_some] <;> rfl) | (simp [*, errW_none, errW_some] <;> rfl), by repeat (first | (with_reducible first | exact HB.out | apply below_alloc | apply pw_below_drewN | apply below_drew1 | refine below_set ?_ (IsS89.ge HI516.out) | refine below_set ?_ GE512.out) | exact HB.out)⟩
/-! ### spec_l07Points: function 98 -/
def spec_l07Points.l0 : Nat → List (S25) → Int → List Int → Int → Int → Option ((List (S25)) × Int × Int)
 | 0, _, _, _, _, _ => none
 | k + 1, x3, x4, x1000, x1001, x1002 => (spec_l01Below.f x1000 x1001 x1002 5).bind fun bt531 => (if x4 < bt531.1 then ((spec_l07Group.f k x1000 bt531.2.1 bt531.2.2).bind fun bt534 => (if x3.length < 5864062014805 then (spec_l07Points.l0 k (x3 ++ [(⟨bt534.1, bt534.2.1, bt534.2.2.1⟩ : S25)]) (wrap64 (x4 + 1)) x1000 bt534.2.2.2.1 bt534.2.2.2.2) else (none))) else (some (x3, bt531.2.1, bt531.2.2)))
def spec_l07Points.f (k : Nat) (s0_0 : List Int) (s0_1 : Int) (s0_2 : Int) : Option ((List (S25)) × Int × Int) := spec_l07Points.l0 k (([] : List (S25))) 0 s0_0 s0_1 s0_2
theorem spec_l07Points.mono_l : ∀ k, (∀ y0 y1 y2 y3 y4, LeO (spec_l07Points.l0 k y0 y1 y2 y3 y4) (spec_l07Points.l0 (k + 1) y0 y1 y2 y3 y4))
 | 0 => fun _ _ _ _ _ r h => by simp [spec_l07Points.l0] at h
 | k + 1 => by
  have ih0 := spec_l07Points.mono_l k
  ·intro y0 y1 y2 y3 y4
   unfold spec_l07Points.l0
   repeat' first
   | (with_reducible exact ih0 _ _ _ _ _)
   | (with_reducible exact spec_l07Group.mono _ _ _ _)
   | (with_reducible exact LeO.refl _)
   | (with_reducible exact LeO.none _)
   | (with_reducible refine LeO.ite ?_ ?_)
   | (with_reducible refine LeO.bind ?_ (fun _ => ?_))
   | exact ih0 _ _ _ _ _
   | exact spec_l07Group.mono _ _ _ _
   | exact LeO.none _
   | refine LeO.ite ?_ ?_
   | refine LeO.bind ?_ (fun _ => ?_)
theorem spec_l07Points.mono : ∀ a0 a1 a2 k, LeO (spec_l07Points.f k a0 a1 a2) (spec_l07Points.f (k + 1) a0 a1 a2) := by
 intro a0 a1 a2 k
 have ih0 := spec_l07Points.mono_l k
 unfold spec_l07Points.f
 repeat' first
   | (with_reducible exact ih0 _ _ _ _ _)
   | (with_reducible exact spec_l07Group.mono _ _ _ _)
   | (with_reducible exact LeO.refl _)
   | (with_reducible exact LeO.none _)
   | (with_reducible refine LeO.ite ?_ ?_)
   | (with_reducible refine LeO.bind ?_ (fun _ => ?_))
   | exact ih0 _ _ _ _ _
   | exact spec_l07Group.mono _ _ _ _
   | exact LeO.none _
   | refine LeO.ite ?_ ?_
   | refine LeO.bind ?_ (fun _ => ?_)
set_option maxHeartbeats 8000000 in
set_option maxRecDepth 100000 in
theorem spec_l07Points.calls (k : Nat) (g : Nat) (s0_0 : List Int) (s0_1 : Int) (s0_2 : Int) (r1 : List (S25)) (r2 : Int) (r3 : Int) (w0 w : World) (hI : IsS89 w0 w g s0_0 s0_1 s0_2) (hB : Below w0.heap.size w0 w) (h : spec_l07Points.f k s0_0 s0_1 s0_2 = some (r1, r2, r3)) :
  Calls Try.prog 98 #[.pointer (some ⟨g, 0, none⟩)] w fun e w' => ∃ v0_ : Value, e = .returned (v0_) ∧ Kd.R k25 25 w' w.heap.size (fun _ => True) v0_ r1 ∧ IsS89 w0 w' g s0_0 r2 r3 ∧ Below w0.heap.size w0 w' ∧ KeepBut w w' g none := by
 have HI0 := Aside0.mk hI
 have HK := Aside0.mk (KeepBut.refl w g none)
 have HL := Aside0.mk hB.size
 clear hI
 have HW0 := Aside0.mk hB.size
 have HB := Aside0.mk hB
 clear hB
 have H : (spec_l07Points.l0 k (([] : List (S25))) 0 s0_0 s0_1 s0_2) = some (r1, r2, r3) := h
 clear h
 obtain ⟨y528, hy528⟩ : ∃ y_ : List (S25), y_ = (([] : List (S25))) := ⟨_, rfl⟩
 replace H : (spec_l07Points.l0 k y528 0 s0_0 s0_1 s0_2) = some (r1, r2, r3) := by first | (rw [hy528]; with_reducible exact H) | (have H2_ := (Option.bind_some _ _).symm.trans H; rw [hy528]; with_reducible exact H2_) | (have H2_ := (Option.bind_some _ _).symm.trans H; with_reducible exact H2_) | with_reducible exact H | (rw [hy528]; exact H) | exact H
 have Ny528 := Aside0.mk hy528
 clear hy528
 have H' := Aside0.mk H
 clear H
 go_enter Try.func98, Try.ntmps98
 go_wp2_with (first | ((with_reducible refine gate_dst (N := 5) rfl ?_); refine Kd.R_lit k25 _ 25 ?hg (N := 5) ?hd (xs := ([] : List (S25))) (inner := []) (ok := fun _ => True) (okp := fun _ => True) ?hr ?hp (fun _ hk => hk) trivial (Below.refl _ _) (Nat.le_refl _) (by simp) ?_; (case hd => rfl); (case hg => rfl); (case hr => first | (go_simp; done) | (go_simp; rfl)); (case hp => exact (Reps.none _ _)); intro v529 w2 ho3 hb hg_ hnew_; clear hg_ hnew_; (first | rw [← Ny528.out] at ho3 | (simp only [Int.reduceToNat] at ho3; rw [← Ny528.out] at ho3)); have HO530 := Aside0.mk (Kd.R_lower ho3 (keep_size (w := w) (g := g) (row := none) (by repeat (first | (with_reducible first | exact HK.out | apply KeepBut.set_ | apply keep_drewN | apply keep_drew | apply keep_alloc) | exact HK.out)))); replace HK := Aside0.mk (KeepBut.trans (by repeat (first | (with_reducible first | exact HK.out | apply KeepBut.set_ | apply keep_drewN | apply keep_drew | apply keep_alloc) | exact HK.out)) (KeepBut.of_below hb g none) (.inl rfl)); replace HB := Aside0.mk (below_step (by repeat (first | (with_reducible first | exact HB.out | apply below_alloc | apply pw_below_drewN | apply below_drew1 | refine below_set ?_ (IsS89.ge HI0.out)) | exact HB.out)) hb); replace HI0 := Aside0.mk (IsS89.below (by repeat (first | (with_reducible first | exact HI0.out | apply IsS89.alloc | apply IsS89.drewN | apply IsS89.drew | apply IsS89.set_1 | apply IsS89.set_2) | exact HI0.out)) hb); clear hb ho3))
 go_loopg [3, 4] k (fun kq v3 v4 w' => ∃ (x3_1 : List (S25)) (x4_1 : Int) (x1001_1 : Int) (x1002_1 : Int), v4 = .int .i64 x4_1 ∧ Aside0 (spec_l07Points.l0 kq x3_1 x4_1 s0_0 x1001_1 x1002_1 = some (r1, r2, r3)) ∧ Aside0 (kq ≤ k) ∧ Aside0 (Kd.R k25 25 w' w.heap.size (fun _ => True) v3 x3_1) ∧ Aside0 (IsS89 w0 w' g s0_0 x1001_1 x1002_1) ∧ Aside0 (KeepBut w w' g none) ∧ Aside0 (Below w0.heap.size w0 w'))
 case atStart => exact ⟨(y528), (0), (s0_1), (s0_2), rS, H', ⟨Nat.le_refl _⟩, ⟨rP HO530⟩, ⟨by repeat (first | (with_reducible first | exact HI0.out | apply IsS89.alloc | apply IsS89.drewN | apply IsS89.drew | apply IsS89.set_1 | apply IsS89.set_2) | exact HI0.out)⟩, ⟨by repeat (first | (with_reducible first | exact HK.out | apply KeepBut.set_ | apply keep_drewN | apply keep_drew | apply keep_alloc) | exact HK.out)⟩, ⟨by repeat (first | (with_reducible first | exact HB.out | apply below_alloc | apply pw_below_drewN | apply below_drew1 | refine below_set ?_ (IsS89.ge HI0.out)) | exact HB.out)⟩⟩
 case round =>
  clear H'
  try clear p2
  obtain ⟨x3_1, x4_1, x1001_1, x1002_1, rfl, HA, HK1, HO_3, HI0, HK, HB⟩ := hrel
  cases gk with
  | zero => exact absurd HA.out (by simp [spec_l07Points.l0])
  | succ k1 =>
   have H := HA.out
   clear HA
   simp only [spec_l07Points.l0] at H
   replace H := Option.bind_eq_some_iff.mp H
   obtain ⟨⟨t531, t532, t533⟩, A40, H⟩ := H
   have A4 := Aside0.mk A40
   clear A40
   by_cases c5 : x4_1 < t531
   ·rw [if_pos c5] at H
    have c5b0 : decide (x4_1 < t531) = true := decide_eq_true c5
    clear c5
    replace H := Option.bind_eq_some_iff.mp H
    obtain ⟨⟨t534, t535, t536, t537, t538⟩, A60, H⟩ := H
    have A6 := Aside0.mk A60
    clear A60
    by_cases c7 : x3_1.length < 5864062014805
    ·rw [if_pos c7] at H
     have LMc7 := Aside0.mk c7
     clear c7
     obtain ⟨y539, hy539⟩ : ∃ y_ : List (S25), y_ = (x3_1 ++ [(⟨t534, t535, t536⟩ : S25)]) := ⟨_, rfl⟩
     replace H : (spec_l07Points.l0 k1 y539 (wrap64 (x4_1 + 1)) s0_0 t537 t538) = some (r1, r2, r3) := by first | (rw [hy539]; with_reducible exact H) | (have H2_ := (Option.bind_some _ _).symm.trans H; rw [hy539]; with_reducible exact H2_) | (have H2_ := (Option.bind_some _ _).symm.trans H; with_reducible exact H2_) | with_reducible exact H | (rw [hy539]; exact H) | exact H
     have Ny539 := Aside0.mk hy539
     clear hy539
     have H' := Aside0.mk H
     clear H
     go_wp2_with (first | ((with_reducible refine gate_callee (f := 62) rfl ?_); refine gL (some 8) Try.func62 #[.pointer (some ⟨g, 0, none⟩), .int .i64 5] ?_; (with_reducible refine (spec_l01Below.calls g s0_0 x1001_1 x1002_1 5 t531 t532 t533 w0 _ ?side1 ?side2 A4.out).mono ?_); (case side1 => repeat (first | (with_reducible first | exact HI0.out | apply IsS89.alloc | apply IsS89.drewN | apply IsS89.drew | apply IsS89.set_1 | apply IsS89.set_2) | exact HI0.out)); (case side2 => repeat (first | (with_reducible first | exact HB.out | apply below_alloc | apply pw_below_drewN | apply below_drew1 | refine below_set ?_ (IsS89.ge HI0.out)) | exact HB.out)); rintro e w8 ⟨rfl, hi, hb, hk⟩; refine ⟨_, rfl, ?_⟩; replace HO_3 := Aside0.mk (Kd.R_mono (Kd.R_keep (IsS89.apart (show IsS89 w0 _ g s0_0 x1001_1 x1002_1 from by repeat (first | (with_reducible first | exact HI0.out | apply IsS89.alloc | apply IsS89.drewN | apply IsS89.drew | apply IsS89.set_1 | apply IsS89.set_2) | exact HI0.out)) (rP HO_3) (by decide)) hk (fun _ h => h.2)) (fun _ h => h.1)); replace HK := Aside0.mk (KeepBut.trans (by repeat (first | (with_reducible first | exact HK.out | apply KeepBut.set_ | apply keep_drewN | apply keep_drew | apply keep_alloc) | exact HK.out)) hk (.inl rfl)); replace HB := Aside0.mk (hb); replace HI0 := Aside0.mk (hi); (try clear hb)) | ((with_reducible refine gate_callee (f := 60) rfl ?_); refine gL (some 14) Try.func60 #[.pointer (some ⟨g, 0, none⟩)] ?_; (with_reducible refine (spec_l07Group.calls k1 g s0_0 t532 t533 t534 t535 t536 t537 t538 w0 _ ?side1 ?side2 A6.out).mono ?_); (case side1 => repeat (first | (with_reducible first | exact HI0.out | apply IsS89.alloc | apply IsS89.drewN | apply IsS89.drew | apply IsS89.set_1 | apply IsS89.set_2) | exact HI0.out)); (case side2 => repeat (first | (with_reducible first | exact HB.out | apply below_alloc | apply pw_below_drewN | apply below_drew1 | refine below_set ?_ (IsS89.ge HI0.out)) | exact HB.out)); rintro e w9 ⟨rfl, hi, hb, hk⟩; refine ⟨_, rfl, ?_⟩; replace HO_3 := Aside0.mk (Kd.R_mono (Kd.R_keep (IsS89.apart (show IsS89 w0 _ g s0_0 t532 t533 from by repeat (first | (with_reducible first | exact HI0.out | apply IsS89.alloc | apply IsS89.drewN | apply IsS89.drew | apply IsS89.set_1 | apply IsS89.set_2) | exact HI0.out)) (rP HO_3) (by decide)) hk (fun _ h => h.2)) (fun _ h => h.1)); replace HK := Aside0.mk (KeepBut.trans (by repeat (first | (with_reducible first | exact HK.out | apply KeepBut.set_ | apply keep_drewN | apply keep_drew | apply keep_alloc) | exact HK.out)) hk (.inl rfl)); replace HB := Aside0.mk (hb); replace HI0 := Aside0.mk (hi); (try clear hb)) | ((with_reducible refine gate_builtin (b := .append) (xs := #[.tmp 12, .tmp 15]) rfl ?_); at_builtin; refine Kd.R_append k25 w.heap.size rfl (.tmp 12) (.tmp 15) 51 25 (.agg #[(.int .i64 0), (.int .i64 0), (.bool false)]) 24 rfl Try.underlying51 info25 rfl (by decide) (by omega) u3 x3_1 (⟨t534, t535, t536⟩ : S25) [.int .i64 t534, .int .i64 t535, .bool t536] (fun _ => True) (fun _ => False) rfl rfl ?aP (fun _ hk => hk.elim) ?aF ?aO (Below.refl _ _) ?aS ?aL ?_; (case aP => exact k25_mkM _ _ _ (⟨t534, t535, t536⟩ : S25)); (case aF => exact (fun _ _ => trivial)); (case aO => exact (rP HO_3)); (case aS => exact (keep_size (w := w) (g := g) (row := none) (by repeat (first | (with_reducible first | exact HK.out | apply KeepBut.set_ | apply keep_drewN | apply keep_drew | apply keep_alloc) | exact HK.out)))); (case aL => have := LMc7.out; omega); intro v540 w10 ho hb hg hat; rw [← Ny539.out] at ho; replace HB := Aside0.mk (below_weaken (by repeat (first | (with_reducible first | exact HB.out | apply below_alloc | apply pw_below_drewN | apply below_drew1 | refine below_set ?_ (IsS89.ge HI0.out)) | exact HB.out)) HL.out hb); replace HI0 := Aside0.mk (IsS89.grown (by repeat (first | (with_reducible first | exact HI0.out | apply IsS89.alloc | apply IsS89.drewN | apply IsS89.drew | apply IsS89.set_1 | apply IsS89.set_2) | exact HI0.out)) hg (IsS89.own_ne HI0.out HO_3.out (by decide))); replace HK := Aside0.mk (KeepBut.trans (by repeat (first | (with_reducible first | exact HK.out | apply KeepBut.set_ | apply keep_drewN | apply keep_drew | apply keep_alloc) | exact HK.out)) (KeepBut.of_grown hg g) (Kd.R_base2 HO_3.out)); have HO541 := Aside0.mk (ho); clear HO_3; clear ho hb hg hat))
     go_roundg k1
     case measure => have := HK1.out; omega
     case rel => exact ⟨(y539), (wrap64 (x4_1 + 1)), (t537), (t538), rS, H', ⟨by have := HK1.out; omega⟩, ⟨rP HO541⟩, ⟨by repeat (first | (with_reducible first | exact HI0.out | apply IsS89.alloc | apply IsS89.drewN | apply IsS89.drew | apply IsS89.set_1 | apply IsS89.set_2) | exact HI0.out)⟩, ⟨by repeat (first | (with_reducible first | exact HK.out | apply KeepBut.set_ | apply keep_drewN | apply keep_drew | apply keep_alloc) | exact HK.out)⟩, ⟨by repeat (first | (with_reducible first | exact HB.out | apply below_alloc | apply pw_below_drewN | apply below_drew1 | refine below_set ?_ (IsS89.ge HI0.out)) | exact HB.out)⟩⟩
    ·rw [if_neg c7] at H
     exact absurd H (by simp)
   ·rw [if_neg c5] at H
    have c5b0 : decide (x4_1 < t531) = false := decide_eq_false c5
    clear c5
    simp only [Option.some.injEq, Prod.mk.injEq] at H
    obtain ⟨rfl, rfl, rfl⟩ := H
    go_wp2_with (first | ((with_reducible refine gate_callee (f := 62) rfl ?_); refine gL (some 8) Try.func62 #[.pointer (some ⟨g, 0, none⟩), .int .i64 5] ?_; (with_reducible refine (spec_l01Below.calls g s0_0 x1001_1 x1002_1 5 t531 t532 t533 w0 _ ?side1 ?side2 A4.out).mono ?_); (case side1 => repeat (first | (with_reducible first | exact HI0.out | apply IsS89.alloc | apply IsS89.drewN | apply IsS89.drew | apply IsS89.set_1 | apply IsS89.set_2) | exact HI0.out)); (case side2 => repeat (first | (with_reducible first | exact HB.out | apply below_alloc | apply pw_below_drewN | apply below_drew1 | refine below_set ?_ (IsS89.ge HI0.out)) | exact HB.out)); rintro e w11 ⟨rfl, hi, hb, hk⟩; refine ⟨_, rfl, ?_⟩; replace HO_3 := Aside0.mk (Kd.R_mono (Kd.R_keep (IsS89.apart (show IsS89 w0 _ g s0_0 x1001_1 x1002_1 from by repeat (first | (with_reducible first | exact HI0.out | apply IsS89.alloc | apply IsS89.drewN | apply IsS89.drew | apply IsS89.set_1 | apply IsS89.set_2) | exact HI0.out)) (rP HO_3) (by decide)) hk (fun _ h => h.2)) (fun _ h => h.1)); replace HK := Aside0.mk (KeepBut.trans (by repeat (first | (with_reducible first | exact HK.out | apply KeepBut.set_ | apply keep_drewN | apply keep_drew | apply keep_alloc) | exact HK.out)) hk (.inl rfl)); replace HB := Aside0.mk (hb); replace HI0 := Aside0.mk (hi); (try clear hb)))
    go_ret
    exact ⟨_, by first | rfl | (simp [errW_none, errW_some] <;> rfl) | (simp [*, errW_none, errW_some] <;> rfl), by (with_reducible repeat (first | apply Kd.R_alloc | apply Kd.R_drewN | apply Kd.R_drew)); exact HO_3.out, by repeat (first | (with_reducible first | exact HI0.out | apply IsS89.alloc | apply IsS89.drewN | apply IsS89.drew | apply IsS89.set_1 | apply IsS89.set_2) | exact HI0.out), by repeat (first | (with_reducible first | exact HB.out | apply below_alloc | apply pw_below_drewN | apply below_drew1 | refine below_set ?_ (IsS89.ge HI0.out)) | exact HB.out), by repeat (first | (with_reducible first | exact HK.out | apply KeepBut.set_ | apply keep_drewN | apply keep_drew | apply keep_alloc) | exact HK.out)⟩
/-! ### spec_l01Once: function 99 -/
def spec_l01Once.f (s0_0 : List Int) (s0_1 : Int) (s0_2 : Int) (a1 : Int) : Option (Bool × Int × Int) := (spec_l01Below.f s0_0 s0_1 s0_2 a1).bind fun bt542 => (some ((bt542.1 == 0), bt542.2.1, bt542.2.2))
set_option maxHeartbeats 8000000 in
set_option maxRecDepth 100000 in
theorem spec_l01Once.calls (g : Nat) (s0_0 : List Int) (s0_1 : Int) (s0_2 : Int) (a1 : Int) (r1 : Bool) (r2 : Int) (r3 : Int) (w0 w : World) (hI : IsS89 w0 w g s0_0 s0_1 s0_2) (hB : Below w0.heap.size w0 w) (h : spec_l01Once.f s0_0 s0_1 s0_2 a1 = some (r1, r2, r3)) :
  Calls Try.prog 99 #[.pointer (some ⟨g, 0, none⟩), .int .i64 a1] w fun e w' => e = .returned (.bool r1) ∧ IsS89 w0 w' g s0_0 r2 r3 ∧ Below w0.heap.size w0 w' ∧ KeepBut w w' g none := by
 have HI0 := Aside0.mk hI
 have HK := Aside0.mk (KeepBut.refl w g none)
 have HL := Aside0.mk hB.size
 clear hI
 have HW0 := Aside0.mk hB.size
 have HB := Aside0.mk hB
 clear hB
 have H : ((spec_l01Below.f s0_0 s0_1 s0_2 a1).bind fun bt542 => (some ((bt542.1 == 0), bt542.2.1, bt542.2.2))) = some (r1, r2, r3) := h
 clear h
 replace H := Option.bind_eq_some_iff.mp H
 obtain ⟨⟨t542, t543, t544⟩, A30, H⟩ := H
 have A3 := Aside0.mk A30
 clear A30
 simp only [Option.some.injEq, Prod.mk.injEq] at H
 obtain ⟨rfl, rfl, rfl⟩ := H
 go_enter Try.func99, Try.ntmps99
 go_wp2_with (first | ((with_reducible refine gate_callee (f := 62) rfl ?_); refine gL (some 7) Try.func62 #[.pointer (some ⟨g, 0, none⟩), .int .i64 a1] ?_; (with_reducible refine (spec_l01Below.calls g s0_0 s0_1 s0_2 a1 t542 t543 t544 w0 _ ?side1 ?side2 A3.out).mono ?_); (case side1 => repeat (first | (with_reducible first | exact HI0.out | apply IsS89.alloc | apply IsS89.drewN | apply IsS89.drew | apply IsS89.set_1 | apply IsS89.set_2) | exact HI0.out)); (case side2 => repeat (first | (with_reducible first | exact HB.out | apply below_alloc | apply pw_below_drewN | apply below_drew1 | refine below_set ?_ (IsS89.ge HI0.out)) | exact HB.out)); rintro e w4 ⟨rfl, hi, hb, hk⟩; refine ⟨_, rfl, ?_⟩; replace HK := Aside0.mk (KeepBut.trans (by repeat (first | (with_reducible first | exact HK.out | apply KeepBut.set_ | apply keep_drewN | apply keep_drew | apply keep_alloc) | exact HK.out)) hk (.inl rfl)); replace HB := Aside0.mk (hb); replace HI0 := Aside0.mk (hi); (try clear hb)))
 go_ret
 exact ⟨by first | rfl | (simp [errW_none, errW_some] <;> rfl) | (simp [*, errW_none, errW_some] <;> rfl), by repeat (first | (with_reducible first | exact HI0.out | apply IsS89.alloc | apply IsS89.drewN | apply IsS89.drew | apply IsS89.set_1 | apply IsS89.set_2) | exact HI0.out), by repeat (first | (with_reducible first | exact HB.out | apply below_alloc | apply pw_below_drewN | apply below_drew1 | refine below_set ?_ (IsS89.ge HI0.out)) | exact HB.out), by repeat (first | (with_reducible first | exact HK.out | apply KeepBut.set_ | apply keep_drewN | apply keep_drew | apply keep_alloc) | exact HK.out)⟩
/-! ### spec_DrawSumPoints: function 50 -/
def spec_DrawSumPoints.f (k : Nat) (l0 : List Int) : Option ((List (S25))) := (spec_l01New.f k l0).bind fun bt545 => ((spec_l07Points.f k bt545.1 bt545.2.1 bt545.2.2).bind fun bt549 => ((spec_l01Once.f bt545.1 bt549.2.1 bt549.2.2 8).bind fun bt554 => (if bt554.1 = true then ((spec_l07Any.f k bt545.1 bt554.2.1 bt554.2.2).bind fun bt557 => (if bt549.1.length < 5864062014805 then (some (bt549.1 ++ [(⟨bt557.1, bt557.2.1, bt557.2.2.1⟩ : S25)])) else (none))) else (some bt549.1))))
theorem spec_DrawSumPoints.mono : ∀ a0 k, LeO (spec_DrawSumPoints.f k a0) (spec_DrawSumPoints.f (k + 1) a0) := by
 intro a0 k
 unfold spec_DrawSumPoints.f
 repeat' first
   | (with_reducible exact spec_l01New.mono _ _)
   | (with_reducible exact spec_l07Any.mono _ _ _ _)
   | (with_reducible exact spec_l07Points.mono _ _ _ _)
   | (with_reducible exact LeO.refl _)
   | (with_reducible exact LeO.none _)
   | (with_reducible refine LeO.ite ?_ ?_)
   | (with_reducible refine LeO.bind ?_ (fun _ => ?_))
   | exact spec_l01New.mono _ _
   | exact spec_l07Any.mono _ _ _ _
   | exact spec_l07Points.mono _ _ _ _
   | exact LeO.none _
   | refine LeO.ite ?_ ?_
   | refine LeO.bind ?_ (fun _ => ?_)
set_option maxHeartbeats 8000000 in
set_option maxRecDepth 100000 in
theorem spec_DrawSumPoints.calls (k : Nat) (A0 : Option Addr) (c0 : Nat) (l0 : List Int) (r : List (S25)) (w : World) (hr0 : Kd.C (Kd.int .u8) w A0 l0.length l0) (hc0 : l0.length ≤ c0) (h : spec_DrawSumPoints.f k l0 = some r) :
  Calls Try.prog 50 #[.slice A0 l0.length c0] w fun e w' => ∃ v0_ : Value, e = .returned (v0_) ∧ Kd.R k25 25 w' w.heap.size (fun _ => True) v0_ r ∧ Below w.heap.size w w' := by
 have HR0 := Aside0.mk hr0
 have HC0 := Aside0.mk hc0
 clear hr0 hc0
 have HB := Aside0.mk (Below.refl w.heap.size w)
 have H : ((spec_l01New.f k l0).bind fun bt545 => ((spec_l07Points.f k bt545.1 bt545.2.1 bt545.2.2).bind fun bt549 => ((spec_l01Once.f bt545.1 bt549.2.1 bt549.2.2 8).bind fun bt554 => (if bt554.1 = true then ((spec_l07Any.f k bt545.1 bt554.2.1 bt554.2.2).bind fun bt557 => (if bt549.1.length < 5864062014805 then (some (bt549.1 ++ [(⟨bt557.1, bt557.2.1, bt557.2.2.1⟩ : S25)])) else (none))) else (some bt549.1))))) = some r := h
 clear h
 replace H := Option.bind_eq_some_iff.mp H
 obtain ⟨⟨t545, t546, t547⟩, A20, H⟩ := H
 have A2 := Aside0.mk A20
 clear A20
 replace H := Option.bind_eq_some_iff.mp H
 obtain ⟨⟨t549, t552, t553⟩, A30, H⟩ := H
 have A3 := Aside0.mk A30
 clear A30
 replace H := Option.bind_eq_some_iff.mp H
 obtain ⟨⟨t554, t555, t556⟩, A40, H⟩ := H
 have A4 := Aside0.mk A40
 clear A40
 by_cases c5 : t554 = true
 ·subst c5
  rw [if_pos rfl] at H
  replace H := Option.bind_eq_some_iff.mp H
  obtain ⟨⟨t557, t558, t559, t560, t561⟩, A60, H⟩ := H
  have A6 := Aside0.mk A60
  clear A60
  by_cases c7 : t549.length < 5864062014805
  ·rw [if_pos c7] at H
   have LMc7 := Aside0.mk c7
   clear c7
   obtain ⟨y562, hy562⟩ : ∃ y_ : List (S25), y_ = (t549 ++ [(⟨t557, t558, t559⟩ : S25)]) := ⟨_, rfl⟩
   replace H : (some y562) = some r := by first | (rw [hy562]; with_reducible exact H) | (have H2_ := (Option.bind_some _ _).symm.trans H; rw [hy562]; with_reducible exact H2_) | (have H2_ := (Option.bind_some _ _).symm.trans H; with_reducible exact H2_) | with_reducible exact H | (rw [hy562]; exact H) | exact H
   have Ny562 := Aside0.mk hy562
   clear hy562
   obtain rfl := Option.some.inj H
   go_enter Try.func50, Try.ntmps50
   go_wp2_with (first | ((with_reducible refine gate_callee (f := 59) rfl ?_); refine gL (some 6) Try.func59 #[.slice A0 l0.length c0] ?_; (with_reducible refine (spec_l01New.calls k _ _ l0 t545 t546 t547 w _ ?side1 ?side2 ?side3 A2.out).mono ?_); (case side1 => repeat (first | (with_reducible first | exact HB.out | apply below_alloc | apply pw_below_drewN | apply below_drew1) | exact HB.out)); (case side2 => exact HR0.out); (case side3 => exact HC0.out); rintro e w8 ⟨g548, rfl, hi, hb, hb2⟩; refine ⟨_, rfl, ?_⟩; replace HB := Aside0.mk (hb); have HI548 := Aside0.mk (hi); (try clear hb)) | ((with_reducible refine gate_callee (f := 98) rfl ?_); refine gL (some 8) Try.func98 #[.pointer (some ⟨g548, 0, none⟩)] ?_; (with_reducible refine (spec_l07Points.calls k g548 t545 t546 t547 t549 t552 t553 w _ ?side1 ?side2 A3.out).mono ?_); (case side1 => repeat (first | (with_reducible first | exact HI548.out | apply IsS89.alloc | apply IsS89.drewN | apply IsS89.drew | apply IsS89.set_1 | apply IsS89.set_2) | exact HI548.out)); (case side2 => repeat (first | (with_reducible first | exact HB.out | apply below_alloc | apply pw_below_drewN | apply below_drew1 | refine below_set ?_ (IsS89.ge HI548.out)) | exact HB.out)); rintro e w9 ⟨v550, rfl, ho0, hi, hb, hk⟩; refine ⟨_, rfl, ?_⟩; have HO551 := Aside0.mk (Kd.R_lower ho0 (below_size (by repeat (first | (with_reducible first | exact HB.out | apply below_alloc | apply pw_below_drewN | apply below_drew1 | refine below_set ?_ (IsS89.ge HI548.out)) | exact HB.out)))); replace HB := Aside0.mk (hb); replace HI548 := Aside0.mk (hi); (try clear hb); (try clear ho0)) | ((with_reducible refine gate_callee (f := 99) rfl ?_); refine gL (some 10) Try.func99 #[.pointer (some ⟨g548, 0, none⟩), .int .i64 8] ?_; (with_reducible refine (spec_l01Once.calls g548 t545 t552 t553 8 true t555 t556 w _ ?side1 ?side2 A4.out).mono ?_); (case side1 => repeat (first | (with_reducible first | exact HI548.out | apply IsS89.alloc | apply IsS89.drewN | apply IsS89.drew | apply IsS89.set_1 | apply IsS89.set_2) | exact HI548.out)); (case side2 => repeat (first | (with_reducible first | exact HB.out | apply below_alloc | apply pw_below_drewN | apply below_drew1 | refine below_set ?_ (IsS89.ge HI548.out)) | exact HB.out)); rintro e w10 ⟨rfl, hi, hb, hk⟩; refine ⟨_, rfl, ?_⟩; replace HO551 := Aside0.mk (Kd.R_mono (Kd.R_keep (IsS89.apart (show IsS89 w _ g548 t545 t552 t553 from by repeat (first | (with_reducible first | exact HI548.out | apply IsS89.alloc | apply IsS89.drewN | apply IsS89.drew | apply IsS89.set_1 | apply IsS89.set_2) | exact HI548.out)) (rP HO551) (by decide)) hk (fun _ h => h.2)) (fun _ h => h.1)); replace HB := Aside0.mk (hb); replace HI548 := Aside0.mk (hi); (try clear hb)) | ((with_reducible refine gate_callee (f := 90) rfl ?_); refine gL (some 13) Try.func90 #[.pointer (some ⟨g548, 0, none⟩)] ?_; (with_reducible refine (spec_l07Any.calls k g548 t545 t555 t556 t557 t558 t559 t560 t561 w _ ?side1 ?side2 A6.out).mono ?_); (case side1 => repeat (first | (with_reducible first | exact HI548.out | apply IsS89.alloc | apply IsS89.drewN | apply IsS89.drew | apply IsS89.set_1 | apply IsS89.set_2) | exact HI548.out)); (case side2 => repeat (first | (with_reducible first | exact HB.out | apply below_alloc | apply pw_below_drewN | apply below_drew1 | refine below_set ?_ (IsS89.ge HI548.out)) | exact HB.out)); rintro e w11 ⟨rfl, hi, hb, hk⟩; refine ⟨_, rfl, ?_⟩; replace HO551 := Aside0.mk (Kd.R_mono (Kd.R_keep (IsS89.apart (show IsS89 w _ g548 t545 t555 t556 from by repeat (first | (with_reducible first | exact HI548.out | apply IsS89.alloc | apply IsS89.drewN | apply IsS89.drew | apply IsS89.set_1 | apply IsS89.set_2) | exact HI548.out)) (rP HO551) (by decide)) hk (fun _ h => h.2)) (fun _ h => h.1)); replace HB := Aside0.mk (hb); replace HI548 := Aside0.mk (hi); (try clear hb)) | ((with_reducible refine gate_builtin (b := .append) (xs := #[.tmp 11, .tmp 14]) rfl ?_); at_builtin; refine Kd.R_append k25 (w0 := w) w.heap.size rfl (.tmp 11) (.tmp 14) 51 25 (.agg #[(.int .i64 0), (.int .i64 0), (.bool false)]) 24 rfl Try.underlying51 info25 rfl (by decide) (by omega) v550 t549 (⟨t557, t558, t559⟩ : S25) [.int .i64 t557, .int .i64 t558, .bool t559] (fun _ => True) (fun _ => False) rfl rfl ?aP (fun _ hk => hk.elim) ?aF ?aO ?aB ?aS ?aL ?_; (case aP => exact k25_mkM _ _ _ (⟨t557, t558, t559⟩ : S25)); (case aB => exact (by repeat (first | (with_reducible first | exact HB.out | apply below_alloc | apply pw_below_drewN | apply below_drew1 | refine below_set ?_ (IsS89.ge HI548.out)) | exact HB.out))); (case aF => exact (fun _ _ => trivial)); (case aO => exact (rP HO551)); (case aS => exact (below_size (by repeat (first | (with_reducible first | exact HB.out | apply below_alloc | apply pw_below_drewN | apply below_drew1 | refine below_set ?_ (IsS89.ge HI548.out)) | exact HB.out)))); (case aL => have := LMc7.out; omega); intro v563 w12 ho hb hg hat; rw [← Ny562.out] at ho; replace HI548 := Aside0.mk (IsS89.grown (by repeat (first | (with_reducible first | exact HI548.out | apply IsS89.alloc | apply IsS89.drewN | apply IsS89.drew | apply IsS89.set_1 | apply IsS89.set_2) | exact HI548.out)) hg (IsS89.own_ne HI548.out HO551.out (by decide))); replace HB := Aside0.mk (hb); have HO564 := Aside0.mk (ho); clear HO551; clear ho hb hg hat))
   go_ret
   exact ⟨_, by first | rfl | (simp [errW_none, errW_some] <;> rfl) | (simp [*, errW_none, errW_some] <;> rfl), by (with_reducible repeat (first | apply Kd.R_alloc | apply Kd.R_drewN | apply Kd.R_drew)); exact HO564.out, by repeat (first | (with_reducible first | exact HB.out | apply below_alloc | apply pw_below_drewN | apply below_drew1 | refine below_set ?_ (IsS89.ge HI548.out)) | exact HB.out)⟩
  ·rw [if_neg c7] at H
   exact absurd H (by simp)
 ·replace c5 := Bool.eq_false_iff.mpr c5
  subst c5
  rw [if_neg (show ¬ (false = true) by decide)] at H
  obtain rfl := Option.some.inj H
  go_enter Try.func50, Try.ntmps50
  go_wp2_with (first | ((with_reducible refine gate_callee (f := 59) rfl ?_); refine gL (some 6) Try.func59 #[.slice A0 l0.length c0] ?_; (with_reducible refine (spec_l01New.calls k _ _ l0 t545 t546 t547 w _ ?side1 ?side2 ?side3 A2.out).mono ?_); (case side1 => repeat (first | (with_reducible first | exact HB.out | apply below_alloc | apply pw_below_drewN | apply below_drew1) | exact HB.out)); (case side2 => exact HR0.out); (case side3 => exact HC0.out); rintro e w13 ⟨g548, rfl, hi, hb, hb2⟩; refine ⟨_, rfl, ?_⟩; replace HB := Aside0.mk (hb); have HI548 := Aside0.mk (hi); (try clear hb)) | ((with_reducible refine gate_callee (f := 98) rfl ?_); refine gL (some 8) Try.func98 #[.pointer (some ⟨g548, 0, none⟩)] ?_; (with_reducible refine (spec_l07Points.calls k g548 t545 t546 t547 t549 t552 t553 w _ ?side1 ?side2 A3.out).mono ?_); (case side1 => repeat (first | (with_reducible first | exact HI548.out | apply IsS89.alloc | apply IsS89.drewN | apply IsS89.drew | apply IsS89.set_1 | apply IsS89.set_2) | exact HI548.out)); (case side2 => repeat (first | (with_reducible first | exact HB.out | apply below_alloc | apply pw_below_drewN | apply below_drew1 | refine below_set ?_ (IsS89.ge HI548.out)) | exact HB.out)); rintro e w14 ⟨v550, rfl, ho0, hi, hb, hk⟩; refine ⟨_, rfl, ?_⟩; have HO551 := Aside0.mk (Kd.R_lower ho0 (below_size (by repeat (first | (with_reducible first | exact HB.out | apply below_alloc | apply pw_below_drewN | apply below_drew1 | refine below_set ?_ (IsS89.ge HI548.out)) | exact HB.out)))); replace HB := Aside0.mk (hb); replace HI548 := Aside0.mk (hi); (try clear hb); (try clear ho0)) | ((with_reducible refine gate_callee (f := 99) rfl ?_); refine gL (some 10) Try.func99 #[.pointer (some ⟨g548, 0, none⟩), .int .i64 8] ?_; (with_reducible refine (spec_l01Once.calls g548 t545 t552 t553 8 false t555 t556 w _ ?side1 ?side2 A4.out).mono ?_); (case side1 => repeat (first | (with_reducible first | exact HI548.out | apply IsS89.alloc | apply IsS89.drewN | apply IsS89.drew | apply IsS89.set_1 | apply IsS89.set_2) | exact HI548.out)); (case side2 => repeat (first | (with_reducible first | exact HB.out | apply below_alloc | apply pw_below_drewN | apply below_drew1 | refine below_set ?_ (IsS89.ge HI548.out)) | exact HB.out)); rintro e w15 ⟨rfl, hi, hb, hk⟩; refine ⟨_, rfl, ?_⟩; replace HO551 := Aside0.mk (Kd.R_mono (Kd.R_keep (IsS89.apart (show IsS89 w _ g548 t545 t552 t553 from by repeat (first | (with_reducible first | exact HI548.out | apply IsS89.alloc | apply IsS89.drewN | apply IsS89.drew | apply IsS89.set_1 | apply IsS89.set_2) | exact HI548.out)) (rP HO551) (by decide)) hk (fun _ h => h.2)) (fun _ h => h.1)); replace HB := Aside0.mk (hb); replace HI548 := Aside0.mk (hi); (try clear hb)))
  go_ret
  exact ⟨_, by first | rfl | (simp [errW_none, errW_some] <;> rfl) | (simp [*, errW_none, errW_some] <;> rfl), by (with_reducible repeat (first | apply Kd.R_alloc | apply Kd.R_drewN | apply Kd.R_drew)); exact HO551.out, by repeat (first | (with_reducible first | exact HB.out | apply below_alloc | apply pw_below_drewN | apply below_drew1 | refine below_set ?_ (IsS89.ge HI548.out)) | exact HB.out)⟩
/-! ### impl_InGroup: function 51 -/
def impl_InGroup.f (k : Nat) (a0_0 : Int) (a0_1 : Int) (a0_2 : Bool) : Option (Bool) := (impl_PointOk.f a0_0 a0_1 a0_2).bind fun t566 => (if t566 = true then ((impl_PointTimes.f k 1009 a0_0 a0_1 a0_2).bind fun bt567 => (some bt567.2.2)) else (some false))
theorem impl_InGroup.mono : ∀ a0 a1 a2 k, LeO (impl_InGroup.f k a0 a1 a2) (impl_InGroup.f (k + 1) a0 a1 a2) := by
 intro a0 a1 a2 k
 unfold impl_InGroup.f
 repeat' first
   | (with_reducible exact impl_PointTimes.mono _ _ _ _ _)
   | (with_reducible exact LeO.refl _)
   | (with_reducible exact LeO.none _)
   | (with_reducible refine LeO.ite ?_ ?_)
   | (with_reducible refine LeO.bind ?_ (fun _ => ?_))
   | exact impl_PointTimes.mono _ _ _ _ _
   | exact LeO.none _
   | refine LeO.ite ?_ ?_
   | refine LeO.bind ?_ (fun _ => ?_)
set_option maxHeartbeats 8000000 in
set_option maxRecDepth 100000 in
theorem impl_InGroup.calls (k : Nat) (a0_0 : Int) (a0_1 : Int) (a0_2 : Bool) (r : Bool) (w : World) (h : impl_InGroup.f k a0_0 a0_1 a0_2 = some r) :
  Calls Try.prog 51 #[.agg #[.int .i64 a0_0, .int .i64 a0_1, .bool a0_2]] w fun e w' => e = .returned (.bool r) ∧ Below w.heap.size w w' := by
 have hu25 := Try.underlying25
 have hfd25_0 : ∀ (x0 : Int) (x1 : Int) (x2 : Bool) (w_ : World), (Instr.field 25 (.agg #[.int .i64 x0, .int .i64 x1, .bool x2]) 0).run Try.prog w_ = .ok (.int .i64 x0) w_ := fun _ _ _ _ => by kernel_rfl
 have hfd25_1 : ∀ (x0 : Int) (x1 : Int) (x2 : Bool) (w_ : World), (Instr.field 25 (.agg #[.int .i64 x0, .int .i64 x1, .bool x2]) 1).run Try.prog w_ = .ok (.int .i64 x1) w_ := fun _ _ _ _ => by kernel_rfl
 have hfd25_2 : ∀ (x0 : Int) (x1 : Int) (x2 : Bool) (w_ : World), (Instr.field 25 (.agg #[.int .i64 x0, .int .i64 x1, .bool x2]) 2).run Try.prog w_ = .ok (.bool x2) w_ := fun _ _ _ _ => by kernel_rfl
 have HB := Aside0.mk (Below.refl w.heap.size w)
 have H : ((impl_PointOk.f a0_0 a0_1 a0_2).bind fun t566 => (if t566 = true then ((impl_PointTimes.f k 1009 a0_0 a0_1 a0_2).bind fun bt567 => (some bt567.2.2)) else (some false))) = some r := h
 clear h
 replace H := Option.bind_eq_some_iff.mp H
 obtain ⟨t566, A20, H⟩ := H
 have A2 := Aside0.mk A20
 clear A20
 by_cases c3 : t566 = true
 ·subst c3
  rw [if_pos rfl] at H
  replace H := Option.bind_eq_some_iff.mp H
  obtain ⟨⟨t567, t568, t569⟩, A40, H⟩ := H
  have A4 := Aside0.mk A40
  clear A40
  obtain rfl := Option.some.inj H
  go_enter Try.func51, Try.ntmps51
  go_wp2_with (first | ((with_reducible refine gate_dst (N := 1) rfl ?_); refine bE 1 #[.int .i64 a0_0, .int .i64 a0_1, .bool a0_2] 25 ?_; intro gb565 hg w5 hbox hb; have BK565 := Aside0.mk (hbox); have GW565 := bG HB hg; have GE565 := bG HB hg; replace HB := bS HB hb; clear hb hbox hg; obtain ⟨hcz6_0, hcz6_1, hcz6_2, hfz6_0, hfz6_1, hfz6_2⟩ := bK3 (w := w5) BK565) | ((with_reducible refine gate_callee (f := 31) rfl ?_); refine gL (some 4) Try.func31 #[.agg #[.int .i64 a0_0, .int .i64 a0_1, .bool a0_2]] ?_; (with_reducible refine (impl_PointOk.calls a0_0 a0_1 a0_2 true _ A2.out).mono ?_); rintro e w7 ⟨rfl, hb⟩; refine ⟨_, rfl, ?_⟩; replace BK565 := bB BK565 hb; replace HB := bS HB hb; (try clear hb); obtain ⟨hcz8_0, hcz8_1, hcz8_2, hfz8_0, hfz8_1, hfz8_2⟩ := bK3 (w := w7) BK565) | (go_at_call 18; (with_reducible refine (impl_PointTimes.calls k 1009 a0_0 a0_1 a0_2 t567 t568 t569 _ A4.out).mono ?_); rintro e w9 ⟨rfl, hb⟩; replace BK565 := bB BK565 hb; replace HB := bS HB hb; (try clear hb)))
  go_ret
  exact ⟨rR, bZ HB⟩
 ·replace c3 := Bool.eq_false_iff.mpr c3
  subst c3
  rw [if_neg (show ¬ (false = true) by decide)] at H
  obtain rfl := Option.some.inj H
  go_enter Try.func51, Try.ntmps51
  go_wp2_with (first | ((with_reducible refine gate_dst (N := 1) rfl ?_); refine bE 1 #[.int .i64 a0_0, .int .i64 a0_1, .bool a0_2] 25 ?_; intro gb565 hg w10 hbox hb; have BK565 := Aside0.mk (hbox); have GW565 := bG HB hg; have GE565 := bG HB hg; replace HB := bS HB hb; clear hb hbox hg; obtain ⟨hcz11_0, hcz11_1, hcz11_2, hfz11_0, hfz11_1, hfz11_2⟩ := bK3 (w := w10) BK565) | ((with_reducible refine gate_callee (f := 31) rfl ?_); refine gL (some 4) Try.func31 #[.agg #[.int .i64 a0_0, .int .i64 a0_1, .bool a0_2]] ?_; (with_reducible refine (impl_PointOk.calls a0_0 a0_1 a0_2 false _ A2.out).mono ?_); rintro e w12 ⟨rfl, hb⟩; refine ⟨_, rfl, ?_⟩; replace BK565 := bB BK565 hb; replace HB := bS HB hb; (try clear hb)))
  go_ret
  exact ⟨rR, bZ HB⟩
/-! ### spec_InGroup: function 52 -/
def spec_InGroup.f (k : Nat) (a0_0 : Int) (a0_1 : Int) (a0_2 : Bool) : Option (Bool) := (spec_PointOk.f a0_0 a0_1 a0_2).bind fun t571 => (if t571 = true then ((spec_PointTimes.f k 1009 a0_0 a0_1 a0_2).bind fun bt572 => (some bt572.2.2)) else (some false))
theorem spec_InGroup.mono : ∀ a0 a1 a2 k, LeO (spec_InGroup.f k a0 a1 a2) (spec_InGroup.f (k + 1) a0 a1 a2) := by
 intro a0 a1 a2 k
 unfold spec_InGroup.f
 repeat' first
   | (with_reducible exact spec_PointTimes.mono _ _ _ _ _)
   | (with_reducible exact LeO.refl _)
   | (with_reducible exact LeO.none _)
   | (with_reducible refine LeO.ite ?_ ?_)
   | (with_reducible refine LeO.bind ?_ (fun _ => ?_))
   | exact spec_PointTimes.mono _ _ _ _ _
   | exact LeO.none _
   | refine LeO.ite ?_ ?_
   | refine LeO.bind ?_ (fun _ => ?_)
set_option maxHeartbeats 8000000 in
set_option maxRecDepth 100000 in
theorem spec_InGroup.calls (k : Nat) (a0_0 : Int) (a0_1 : Int) (a0_2 : Bool) (r : Bool) (w : World) (h : spec_InGroup.f k a0_0 a0_1 a0_2 = some r) :
  Calls Try.prog 52 #[.agg #[.int .i64 a0_0, .int .i64 a0_1, .bool a0_2]] w fun e w' => e = .returned (.bool r) ∧ Below w.heap.size w w' := by
 have hu25 := Try.underlying25
 have hfd25_0 : ∀ (x0 : Int) (x1 : Int) (x2 : Bool) (w_ : World), (Instr.field 25 (.agg #[.int .i64 x0, .int .i64 x1, .bool x2]) 0).run Try.prog w_ = .ok (.int .i64 x0) w_ := fun _ _ _ _ => by kernel_rfl
 have hfd25_1 : ∀ (x0 : Int) (x1 : Int) (x2 : Bool) (w_ : World), (Instr.field 25 (.agg #[.int .i64 x0, .int .i64 x1, .bool x2]) 1).run Try.prog w_ = .ok (.int .i64 x1) w_ := fun _ _ _ _ => by kernel_rfl
 have hfd25_2 : ∀ (x0 : Int) (x1 : Int) (x2 : Bool) (w_ : World), (Instr.field 25 (.agg #[.int .i64 x0, .int .i64 x1, .bool x2]) 2).run Try.prog w_ = .ok (.bool x2) w_ := fun _ _ _ _ => by kernel_rfl
 have HB := Aside0.mk (Below.refl w.heap.size w)
 have H : ((spec_PointOk.f a0_0 a0_1 a0_2).bind fun t571 => (if t571 = true then ((spec_PointTimes.f k 1009 a0_0 a0_1 a0_2).bind fun bt572 => (some bt572.2.2)) else (some false))) = some r := h
 clear h
 replace H := Option.bind_eq_some_iff.mp H
 obtain ⟨t571, A20, H⟩ := H
 have A2 := Aside0.mk A20
 clear A20
 by_cases c3 : t571 = true
 ·subst c3
  rw [if_pos rfl] at H
  replace H := Option.bind_eq_some_iff.mp H
  obtain ⟨⟨t572, t573, t574⟩, A40, H⟩ := H
  have A4 := Aside0.mk A40
  clear A40
  obtain rfl := Option.some.inj H
  go_enter Try.func52, Try.ntmps52
  go_wp2_with (first | ((with_reducible refine gate_dst (N := 1) rfl ?_); refine bE 1 #[.int .i64 a0_0, .int .i64 a0_1, .bool a0_2] 25 ?_; intro gb570 hg w5 hbox hb; have BK570 := Aside0.mk (hbox); have GW570 := bG HB hg; have GE570 := bG HB hg; replace HB := bS HB hb; clear hb hbox hg; obtain ⟨hcz6_0, hcz6_1, hcz6_2, hfz6_0, hfz6_1, hfz6_2⟩ := bK3 (w := w5) BK570) | ((with_reducible refine gate_callee (f := 55) rfl ?_); refine gL (some 4) Try.func55 #[.agg #[.int .i64 a0_0, .int .i64 a0_1, .bool a0_2]] ?_; (with_reducible refine (spec_PointOk.calls a0_0 a0_1 a0_2 true _ A2.out).mono ?_); rintro e w7 ⟨rfl, hb⟩; refine ⟨_, rfl, ?_⟩; replace BK570 := bB BK570 hb; replace HB := bS HB hb; (try clear hb); obtain ⟨hcz8_0, hcz8_1, hcz8_2, hfz8_0, hfz8_1, hfz8_2⟩ := bK3 (w := w7) BK570) | (go_at_call 27; (with_reducible refine (spec_PointTimes.calls k 1009 a0_0 a0_1 a0_2 t572 t573 t574 _ A4.out).mono ?_); rintro e w9 ⟨rfl, hb⟩; replace BK570 := bB BK570 hb; replace HB := bS HB hb; (try clear hb)))
  go_ret
  exact ⟨rR, bZ HB⟩
 ·replace c3 := Bool.eq_false_iff.mpr c3
  subst c3
  rw [if_neg (show ¬ (false = true) by decide)] at H
  obtain rfl := Option.some.inj H
  go_enter Try.func52, Try.ntmps52
  go_wp2_with (first | ((with_reducible refine gate_dst (N := 1) rfl ?_); refine bE 1 #[.int .i64 a0_0, .int .i64 a0_1, .bool a0_2] 25 ?_; intro gb570 hg w10 hbox hb; have BK570 := Aside0.mk (hbox); have GW570 := bG HB hg; have GE570 := bG HB hg; replace HB := bS HB hb; clear hb hbox hg; obtain ⟨hcz11_0, hcz11_1, hcz11_2, hfz11_0, hfz11_1, hfz11_2⟩ := bK3 (w := w10) BK570) | ((with_reducible refine gate_callee (f := 55) rfl ?_); refine gL (some 4) Try.func55 #[.agg #[.int .i64 a0_0, .int .i64 a0_1, .bool a0_2]] ?_; (with_reducible refine (spec_PointOk.calls a0_0 a0_1 a0_2 false _ A2.out).mono ?_); rintro e w12 ⟨rfl, hb⟩; refine ⟨_, rfl, ?_⟩; replace BK570 := bB BK570 hb; replace HB := bS HB hb; (try clear hb)))
  go_ret
  exact ⟨rR, bZ HB⟩
/-! ### impl_Base: function 54 -/
def impl_Base.f  : Option (Int × Int × Bool) := some (8445, 859, false)
set_option maxHeartbeats 8000000 in
set_option maxRecDepth 100000 in
theorem impl_Base.calls  (r1 : Int) (r2 : Int) (r3 : Bool) (w : World) (h : impl_Base.f  = some (r1, r2, r3)) :
  Calls Try.prog 54 #[] w fun e w' => e = .returned (.agg #[.int .i64 r1, .int .i64 r2, .bool r3]) ∧ Below w.heap.size w w' := by
 have hu25 := Try.underlying25
 have HB := Aside0.mk (Below.refl w.heap.size w)
 have H : (some (8445, 859, false)) = some (r1, r2, r3) := h
 clear h
 simp only [Option.some.injEq, Prod.mk.injEq] at H
 obtain ⟨rfl, rfl, rfl⟩ := H
 go_enter Try.func54, Try.ntmps54
 go_wp2_with (first | ((with_reducible refine gate_dst (N := 0) rfl ?_); refine bE 0 #[.int .i64 0, .int .i64 0, .bool false] 25 ?_; intro gb575 hg w1 hbox hb; have BK575 := Aside0.mk (hbox); have GW575 := bG HB hg; have GE575 := bG HB hg; replace HB := bS HB hb; clear hb hbox hg; obtain ⟨hcz2_0, hcz2_1, hcz2_2, hfz2_0, hfz2_1, hfz2_2⟩ := bK3 (w := w1) BK575))
 refine rC gb575 25 #[.int .i64 8445, .int .i64 859, .bool false] (bU BK575) Try.underlying25 ?_
 exact ⟨rR, bZ HB⟩
end Go.Proofs.Ytmbjefdkjdemhaa.Pf
end
