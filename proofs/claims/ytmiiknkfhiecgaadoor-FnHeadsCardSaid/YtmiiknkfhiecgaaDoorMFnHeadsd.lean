/- What is proved here: part 4 of 5 of the proof of the given statement FnHeads: the contracts of the Go functions that it reaches, the plain facts on lists and numbers, and (in the last part) the statement itself. No conditions beyond the given ones. -/
import Derived.Test.YtmiiknkfhiecgaaDoorMFnHeadswSlim
import Derived.Test.YtmiiknkfhiecgaaDoorMFnHeadsa
import Derived.Test.YtmiiknkfhiecgaaDoorMFnHeadsb
import Derived.Test.YtmiiknkfhiecgaaDoorMFnHeadsc

section
namespace Go.Proofs.YtmiiknkfhiecgaaDoor.Pf
open Go.RowKit Go.Proofs.YtmiiknkfhiecgaaDoorW.PrintWords Go.Proofs.YtmiiknkfhiecgaaDoorW.PrintLast Go.Proofs.YtmiiknkfhiecgaaDoorW.PrintMore
attribute [local go_sem] max2_int min2_int max_two min_two max_three min_three max_four min_four   -- for this text's walks alone
set_option linter.unusedVariables false
set_option linter.unusedSimpArgs false
/-! ### spec_DrawReadHead: function 43 -/
def spec_DrawReadHead.f (k : Nat) (l0 : List Int) : Option (ByteArray) := (spec_l01New.f k l0).bind fun bt317 => ((spec_l01Below.f bt317.1 bt317.2.1 bt317.2.2 4).bind fun bt321 => ((spec_l11Any.f k bt317.1 bt321.2.1 bt321.2.2).bind fun bt324 => ((spec_HeadText.f k bt324.1 bt324.2.1 bt324.2.2.1 bt324.2.2.2.1).bind fun bt330 => (if bt321.1 = 0 then (if bt330.1.size + 1 ≤ 9223372036854775807 then (some (bt330.1 ++ (⟨#[120]⟩ : ByteArray))) else (none)) else (if bt321.1 = 1 then (if (bt330.1.size : Int) > 0 then ((spec_l02Spoilt.f k bt317.1 bt324.2.2.2.2.1 bt324.2.2.2.2.2 bt330.1).bind fun bt332 => (some bt332.1)) else (some bt330.1)) else (some bt330.1))))))
theorem spec_DrawReadHead.mono : ∀ a0 k, LeO (spec_DrawReadHead.f k a0) (spec_DrawReadHead.f (k + 1) a0) := by
 intro a0 k
 unfold spec_DrawReadHead.f
 repeat' first
   | (with_reducible exact spec_HeadText.mono _ _ _ _ _)
   | (with_reducible exact spec_l01New.mono _ _)
   | (with_reducible exact spec_l02Spoilt.mono _ _ _ _ _)
   | (with_reducible exact spec_l11Any.mono _ _ _ _)
   | (with_reducible exact LeO.refl _)
   | (with_reducible exact LeO.none _)
   | (with_reducible refine LeO.ite ?_ ?_)
   | (with_reducible refine LeO.bind ?_ (fun _ => ?_))
   | exact spec_HeadText.mono _ _ _ _ _
   | exact spec_l01New.mono _ _
   | exact spec_l02Spoilt.mono _ _ _ _ _
   | exact spec_l11Any.mono _ _ _ _
   | exact LeO.none _
   | refine LeO.ite ?_ ?_
   | refine LeO.bind ?_ (fun _ => ?_)
set_option maxHeartbeats 8000000 in
set_option maxRecDepth 100000 in
theorem spec_DrawReadHead.calls (k : Nat) (A0 : Option Addr) (c0 : Nat) (l0 : List Int) (r : ByteArray) (w : World) (hr0 : Kd.C (Kd.int .u8) w A0 l0.length l0) (hc0 : l0.length ≤ c0) (h : spec_DrawReadHead.f k l0 = some r) :
  Calls Tryd.prog 43 #[.slice A0 l0.length c0] w fun e w' => e = .returned (.string r) ∧ Below w.heap.size w w' := by
 have HR0 := Aside0.mk hr0
 have HC0 := Aside0.mk hc0
 clear hr0 hc0
 have HB := Aside0.mk (Below.refl w.heap.size w)
 have H : ((spec_l01New.f k l0).bind fun bt317 => ((spec_l01Below.f bt317.1 bt317.2.1 bt317.2.2 4).bind fun bt321 => ((spec_l11Any.f k bt317.1 bt321.2.1 bt321.2.2).bind fun bt324 => ((spec_HeadText.f k bt324.1 bt324.2.1 bt324.2.2.1 bt324.2.2.2.1).bind fun bt330 => (if bt321.1 = 0 then (if bt330.1.size + 1 ≤ 9223372036854775807 then (some (bt330.1 ++ (⟨#[120]⟩ : ByteArray))) else (none)) else (if bt321.1 = 1 then (if (bt330.1.size : Int) > 0 then ((spec_l02Spoilt.f k bt317.1 bt324.2.2.2.2.1 bt324.2.2.2.2.2 bt330.1).bind fun bt332 => (some bt332.1)) else (some bt330.1)) else (some bt330.1))))))) = some r := h
 clear h
 replace H := Option.bind_eq_some_iff.mp H
 obtain ⟨⟨t317, t318, t319⟩, A20, H⟩ := H
 have A2 := Aside0.mk A20
 clear A20
 replace H := Option.bind_eq_some_iff.mp H
 obtain ⟨⟨t321, t322, t323⟩, A30, H⟩ := H
 have A3 := Aside0.mk A30
 clear A30
 replace H := Option.bind_eq_some_iff.mp H
 obtain ⟨⟨t324, t325, t326, t327, t328, t329⟩, A40, H⟩ := H
 have A4 := Aside0.mk A40
 clear A40
 replace H := Option.bind_eq_some_iff.mp H
 obtain ⟨⟨t330, t331⟩, A50, H⟩ := H
 have A5 := Aside0.mk A50
 clear A50
 by_cases c6 : t321 = 0
 ·rw [if_pos c6] at H
  have c6b0 : (t321 == 0) = true := beq_iff_eq.mpr c6
  have c6b1 : (t321 != 0) = false := bne_eq_false_iff_eq.mpr c6
  clear c6
  by_cases c7 : t330.size + 1 ≤ 9223372036854775807
  ·rw [if_pos c7] at H
   have c7b0 := eq_true c7
   have c7b1 : decide (t330.size + 1 ≤ 9223372036854775807) = true := decide_eq_true c7
   try have c7b2 : (9223372036854775807 < t330.size + 1) = False := eq_false (Nat.not_lt.2 c7)
   try simp only [ByteArray.size_append] at c7b2
   obtain rfl := Option.some.inj H
   go_enter Tryd.func43, Tryd.ntmps43
   go_wp2_with (first | ((with_reducible refine gate_callee (f := 59) rfl ?_); refine gL (some 8) Tryd.func59 #[.slice A0 l0.length c0] ?_; (with_reducible refine (spec_l01New.calls k _ _ l0 t317 t318 t319 w _ ?side1 ?side2 ?side3 A2.out).mono ?_); (case side1 => repeat (first | (with_reducible first | exact HB.out | apply below_alloc | apply pw_below_drewN | apply below_drew1) | exact HB.out)); (case side2 => exact HR0.out); (case side3 => exact HC0.out); rintro e w8 ⟨g320, rfl, hi, hb, hb2⟩; refine ⟨_, rfl, ?_⟩; replace HB := Aside0.mk (hb); have HI320 := Aside0.mk (hi); (try clear hb)) | ((with_reducible refine gate_callee (f := 60) rfl ?_); refine gL (some 10) Tryd.func60 #[.pointer (some ⟨g320, 0, none⟩), .int .i64 4] ?_; (with_reducible refine (spec_l01Below.calls g320 t317 t318 t319 4 t321 t322 t323 w _ ?side1 ?side2 A3.out).mono ?_); (case side1 => repeat (first | (with_reducible first | exact HI320.out | apply IsS93.alloc | apply IsS93.drewN | apply IsS93.drew | apply IsS93.set_1 | apply IsS93.set_2) | exact HI320.out)); (case side2 => repeat (first | (with_reducible first | exact HB.out | apply below_alloc | apply pw_below_drewN | apply below_drew1 | refine below_set ?_ (IsS93.ge HI320.out)) | exact HB.out)); rintro e w9 ⟨rfl, hi, hb, hk⟩; refine ⟨_, rfl, ?_⟩; replace HB := Aside0.mk (hb); replace HI320 := Aside0.mk (hi); (try clear hb)) | ((with_reducible refine gate_callee (f := 69) rfl ?_); refine gL (some 13) Tryd.func69 #[.pointer (some ⟨g320, 0, none⟩)] ?_; (with_reducible refine (spec_l11Any.calls k g320 t317 t322 t323 t324 t325 t326 t327 t328 t329 w _ ?side1 ?side2 A4.out).mono ?_); (case side1 => repeat (first | (with_reducible first | exact HI320.out | apply IsS93.alloc | apply IsS93.drewN | apply IsS93.drew | apply IsS93.set_1 | apply IsS93.set_2) | exact HI320.out)); (case side2 => repeat (first | (with_reducible first | exact HB.out | apply below_alloc | apply pw_below_drewN | apply below_drew1 | refine below_set ?_ (IsS93.ge HI320.out)) | exact HB.out)); rintro e w10 ⟨rfl, hi, hb, hk⟩; refine ⟨_, rfl, ?_⟩; replace HB := Aside0.mk (hb); replace HI320 := Aside0.mk (hi); (try clear hb)) | ((with_reducible refine gate_callee (f := 72) rfl ?_); refine gL (some 14) Tryd.func72 #[.agg #[.int .i64 t324, .string t325, .string t326, .string t327]] ?_; (with_reducible refine (spec_HeadText.calls k t324 t325 t326 t327 t330 t331 _ A5.out).mono ?_); rintro e w11 ⟨rfl, hb⟩; refine ⟨_, rfl, ?_⟩; replace HB := Aside0.mk (below_step (by repeat (first | (with_reducible first | exact HB.out | apply below_alloc | apply pw_below_drewN | apply below_drew1 | refine below_set ?_ (IsS93.ge HI320.out)) | exact HB.out)) hb); replace HI320 := Aside0.mk (IsS93.below (by repeat (first | (with_reducible first | exact HI320.out | apply IsS93.alloc | apply IsS93.drewN | apply IsS93.drew | apply IsS93.set_1 | apply IsS93.set_2) | exact HI320.out)) hb); (try clear hb)))
   go_ret
   exact ⟨by first | rfl | (simp [errW_none, errW_some] <;> rfl) | (simp [*, errW_none, errW_some] <;> rfl), by repeat (first | (with_reducible first | exact HB.out | apply below_alloc | apply pw_below_drewN | apply below_drew1 | refine below_set ?_ (IsS93.ge HI320.out)) | exact HB.out)⟩
  ·rw [if_neg c7] at H
   exact absurd H (by simp)
 ·rw [if_neg c6] at H
  have c6b0 : (t321 == 0) = false := beq_eq_false_iff_ne.mpr c6
  have c6b1 : (t321 != 0) = true := bne_iff_ne.mpr c6
  by_cases c12 : t321 = 1
  ·rw [if_pos c12] at H
   have c12b0 : (t321 == 1) = true := beq_iff_eq.mpr c12
   have c12b1 : (t321 != 1) = false := bne_eq_false_iff_eq.mpr c12
   clear c12
   by_cases c13 : (t330.size : Int) > 0
   ·rw [if_pos c13] at H
    have c13b0 : decide (0 < (t330.size : Int)) = true := decide_eq_true c13
    have c13b1 : decide (0 < t330.size) = true := decide_eq_true (by omega)
    clear c13
    replace H := Option.bind_eq_some_iff.mp H
    obtain ⟨⟨t332, t333, t334⟩, A140, H⟩ := H
    have A14 := Aside0.mk A140
    clear A140
    obtain rfl := Option.some.inj H
    go_enter Tryd.func43, Tryd.ntmps43
    go_wp2_with (first | ((with_reducible refine gate_callee (f := 59) rfl ?_); refine gL (some 8) Tryd.func59 #[.slice A0 l0.length c0] ?_; (with_reducible refine (spec_l01New.calls k _ _ l0 t317 t318 t319 w _ ?side1 ?side2 ?side3 A2.out).mono ?_); (case side1 => repeat (first | (with_reducible first | exact HB.out | apply below_alloc | apply pw_below_drewN | apply below_drew1) | exact HB.out)); (case side2 => exact HR0.out); (case side3 => exact HC0.out); rintro e w15 ⟨g320, rfl, hi, hb, hb2⟩; refine ⟨_, rfl, ?_⟩; replace HB := Aside0.mk (hb); have HI320 := Aside0.mk (hi); (try clear hb)) | ((with_reducible refine gate_callee (f := 60) rfl ?_); refine gL (some 10) Tryd.func60 #[.pointer (some ⟨g320, 0, none⟩), .int .i64 4] ?_; (with_reducible refine (spec_l01Below.calls g320 t317 t318 t319 4 t321 t322 t323 w _ ?side1 ?side2 A3.out).mono ?_); (case side1 => repeat (first | (with_reducible first | exact HI320.out | apply IsS93.alloc | apply IsS93.drewN | apply IsS93.drew | apply IsS93.set_1 | apply IsS93.set_2) | exact HI320.out)); (case side2 => repeat (first | (with_reducible first | exact HB.out | apply below_alloc | apply pw_below_drewN | apply below_drew1 | refine below_set ?_ (IsS93.ge HI320.out)) | exact HB.out)); rintro e w16 ⟨rfl, hi, hb, hk⟩; refine ⟨_, rfl, ?_⟩; replace HB := Aside0.mk (hb); replace HI320 := Aside0.mk (hi); (try clear hb)) | ((with_reducible refine gate_callee (f := 69) rfl ?_); refine gL (some 13) Tryd.func69 #[.pointer (some ⟨g320, 0, none⟩)] ?_; (with_reducible refine (spec_l11Any.calls k g320 t317 t322 t323 t324 t325 t326 t327 t328 t329 w _ ?side1 ?side2 A4.out).mono ?_); (case side1 => repeat (first | (with_reducible first | exact HI320.out | apply IsS93.alloc | apply IsS93.drewN | apply IsS93.drew | apply IsS93.set_1 | apply IsS93.set_2) | exact HI320.out)); (case side2 => repeat (first | (with_reducible first | exact HB.out | apply below_alloc | apply pw_below_drewN | apply below_drew1 | refine below_set ?_ (IsS93.ge HI320.out)) | exact HB.out)); rintro e w17 ⟨rfl, hi, hb, hk⟩; refine ⟨_, rfl, ?_⟩; replace HB := Aside0.mk (hb); replace HI320 := Aside0.mk (hi); (try clear hb)) | ((with_reducible refine gate_callee (f := 72) rfl ?_); refine gL (some 14) Tryd.func72 #[.agg #[.int .i64 t324, .string t325, .string t326, .string t327]] ?_; (with_reducible refine (spec_HeadText.calls k t324 t325 t326 t327 t330 t331 _ A5.out).mono ?_); rintro e w18 ⟨rfl, hb⟩; refine ⟨_, rfl, ?_⟩; replace HB := Aside0.mk (below_step (by repeat (first | (with_reducible first | exact HB.out | apply below_alloc | apply pw_below_drewN | apply below_drew1 | refine below_set ?_ (IsS93.ge HI320.out)) | exact HB.out)) hb); replace HI320 := Aside0.mk (IsS93.below (by repeat (first | (with_reducible first | exact HI320.out | apply IsS93.alloc | apply IsS93.drewN | apply IsS93.drew | apply IsS93.set_1 | apply IsS93.set_2) | exact HI320.out)) hb); (try clear hb)) | ((with_reducible refine gate_callee (f := 73) rfl ?_); refine gL (some 30) Tryd.func73 #[.pointer (some ⟨g320, 0, none⟩), .string t330] ?_; (with_reducible refine (spec_l02Spoilt.calls k g320 t317 t328 t329 t330 t332 t333 t334 w _ ?side1 ?side2 A14.out).mono ?_); (case side1 => repeat (first | (with_reducible first | exact HI320.out | apply IsS93.alloc | apply IsS93.drewN | apply IsS93.drew | apply IsS93.set_1 | apply IsS93.set_2) | exact HI320.out)); (case side2 => repeat (first | (with_reducible first | exact HB.out | apply below_alloc | apply pw_below_drewN | apply below_drew1 | refine below_set ?_ (IsS93.ge HI320.out)) | exact HB.out)); rintro e w19 ⟨rfl, hi, hb, hk⟩; refine ⟨_, rfl, ?_⟩; replace HB := Aside0.mk (hb); replace HI320 := Aside0.mk (hi); (try clear hb)))
    go_ret
    exact ⟨by first | rfl | (simp [errW_none, errW_some] <;> rfl) | (simp [*, errW_none, errW_some] <;> rfl), by repeat (first | (with_reducible first | exact HB.out | apply below_alloc | apply pw_below_drewN | apply below_drew1 | refine below_set ?_ (IsS93.ge HI320.out)) | exact HB.out)⟩
   ·rw [if_neg c13] at H
    have c13b0 : decide (0 < (t330.size : Int)) = false := decide_eq_false c13
    have c13b1 : decide (0 < t330.size) = false := decide_eq_false (by omega)
    clear c13
    obtain rfl := Option.some.inj H
    go_enter Tryd.func43, Tryd.ntmps43
    go_wp2_with (first | ((with_reducible refine gate_callee (f := 59) rfl ?_); refine gL (some 8) Tryd.func59 #[.slice A0 l0.length c0] ?_; (with_reducible refine (spec_l01New.calls k _ _ l0 t317 t318 t319 w _ ?side1 ?side2 ?side3 A2.out).mono ?_); (case side1 => repeat (first | (with_reducible first | exact HB.out | apply below_alloc | apply pw_below_drewN | apply below_drew1) | exact HB.out)); (case side2 => exact HR0.out); (case side3 => exact HC0.out); rintro e w20 ⟨g320, rfl, hi, hb, hb2⟩; refine ⟨_, rfl, ?_⟩; replace HB := Aside0.mk (hb); have HI320 := Aside0.mk (hi); (try clear hb)) | ((with_reducible refine gate_callee (f := 60) rfl ?_); refine gL (some 10) Tryd.func60 #[.pointer (some ⟨g320, 0, none⟩), .int .i64 4] ?_; (with_reducible refine (spec_l01Below.calls g320 t317 t318 t319 4 t321 t322 t323 w _ ?side1 ?side2 A3.out).mono ?_); (case side1 => repeat (first | (with_reducible first | exact HI320.out | apply IsS93.alloc | apply IsS93.drewN | apply IsS93.drew | apply IsS93.set_1 | apply IsS93.set_2) | exact HI320.out)); (case side2 => repeat (first | (with_reducible first | exact HB.out | apply below_alloc | apply pw_below_drewN | apply below_drew1 | refine below_set ?_ (IsS93.ge HI320.out)) | exact HB.out)); rintro e w21 ⟨rfl, hi, hb, hk⟩; refine ⟨_, rfl, ?_⟩; replace HB := Aside0.mk (hb); replace HI320 := Aside0.mk (hi); (try clear hb)) | ((with_reducible refine gate_callee (f := 69) rfl ?_); refine gL (some 13) Tryd.func69 #[.pointer (some ⟨g320, 0, none⟩)] ?_; (with_reducible refine (spec_l11Any.calls k g320 t317 t322 t323 t324 t325 t326 t327 t328 t329 w _ ?side1 ?side2 A4.out).mono ?_); (case side1 => repeat (first | (with_reducible first | exact HI320.out | apply IsS93.alloc | apply IsS93.drewN | apply IsS93.drew | apply IsS93.set_1 | apply IsS93.set_2) | exact HI320.out)); (case side2 => repeat (first | (with_reducible first | exact HB.out | apply below_alloc | apply pw_below_drewN | apply below_drew1 | refine below_set ?_ (IsS93.ge HI320.out)) | exact HB.out)); rintro e w22 ⟨rfl, hi, hb, hk⟩; refine ⟨_, rfl, ?_⟩; replace HB := Aside0.mk (hb); replace HI320 := Aside0.mk (hi); (try clear hb)) | ((with_reducible refine gate_callee (f := 72) rfl ?_); refine gL (some 14) Tryd.func72 #[.agg #[.int .i64 t324, .string t325, .string t326, .string t327]] ?_; (with_reducible refine (spec_HeadText.calls k t324 t325 t326 t327 t330 t331 _ A5.out).mono ?_); rintro e w23 ⟨rfl, hb⟩; refine ⟨_, rfl, ?_⟩; replace HB := Aside0.mk (below_step (by repeat (first | (with_reducible first | exact HB.out | apply below_alloc | apply pw_below_drewN | apply below_drew1 | refine below_set ?_ (IsS93.ge HI320.out)) | exact HB.out)) hb); replace HI320 := Aside0.mk (IsS93.below (by repeat (first | (with_reducible first | exact HI320.out | apply IsS93.alloc | apply IsS93.drewN | apply IsS93.drew | apply IsS93.set_1 | apply IsS93.set_2) | exact HI320.out)) hb); (try clear hb)))
    go_ret
    exact ⟨by first | rfl | (simp [errW_none, errW_some] <;> rfl) | (simp [*, errW_none, errW_some] <;> rfl), by repeat (first | (with_reducible first | exact HB.out | apply below_alloc | apply pw_below_drewN | apply below_drew1 | refine below_set ?_ (IsS93.ge HI320.out)) | exact HB.out)⟩
  ·rw [if_neg c12] at H
   have c12b0 : (t321 == 1) = false := beq_eq_false_iff_ne.mpr c12
   have c12b1 : (t321 != 1) = true := bne_iff_ne.mpr c12
   obtain rfl := Option.some.inj H
   go_enter Tryd.func43, Tryd.ntmps43
   go_wp2_with (first | ((with_reducible refine gate_callee (f := 59) rfl ?_); refine gL (some 8) Tryd.func59 #[.slice A0 l0.length c0] ?_; (with_reducible refine (spec_l01New.calls k _ _ l0 t317 t318 t319 w _ ?side1 ?side2 ?side3 A2.out).mono ?_); (case side1 => repeat (first | (with_reducible first | exact HB.out | apply below_alloc | apply pw_below_drewN | apply below_drew1) | exact HB.out)); (case side2 => exact HR0.out); (case side3 => exact HC0.out); rintro e w24 ⟨g320, rfl, hi, hb, hb2⟩; refine ⟨_, rfl, ?_⟩; replace HB := Aside0.mk (hb); have HI320 := Aside0.mk (hi); (try clear hb)) | ((with_reducible refine gate_callee (f := 60) rfl ?_); refine gL (some 10) Tryd.func60 #[.pointer (some ⟨g320, 0, none⟩), .int .i64 4] ?_; (with_reducible refine (spec_l01Below.calls g320 t317 t318 t319 4 t321 t322 t323 w _ ?side1 ?side2 A3.out).mono ?_); (case side1 => repeat (first | (with_reducible first | exact HI320.out | apply IsS93.alloc | apply IsS93.drewN | apply IsS93.drew | apply IsS93.set_1 | apply IsS93.set_2) | exact HI320.out)); (case side2 => repeat (first | (with_reducible first | exact HB.out | apply below_alloc | apply pw_below_drewN | apply below_drew1 | refine below_set ?_ (IsS93.ge HI320.out)) | exact HB.out)); rintro e w25 ⟨rfl, hi, hb, hk⟩; refine ⟨_, rfl, ?_⟩; replace HB := Aside0.mk (hb); replace HI320 := Aside0.mk (hi); (try clear hb)) | ((with_reducible refine gate_callee (f := 69) rfl ?_); refine gL (some 13) Tryd.func69 #[.pointer (some ⟨g320, 0, none⟩)] ?_; (with_reducible refine (spec_l11Any.calls k g320 t317 t322 t323 t324 t325 t326 t327 t328 t329 w _ ?side1 ?side2 A4.out).mono ?_); (case side1 => repeat (first | (with_reducible first | exact HI320.out | apply IsS93.alloc | apply IsS93.drewN | apply IsS93.drew | apply IsS93.set_1 | apply IsS93.set_2) | exact HI320.out)); (case side2 => repeat (first | (with_reducible first | exact HB.out | apply below_alloc | apply pw_below_drewN | apply below_drew1 | refine below_set ?_ (IsS93.ge HI320.out)) | exact HB.out)); rintro e w26 ⟨rfl, hi, hb, hk⟩; refine ⟨_, rfl, ?_⟩; replace HB := Aside0.mk (hb); replace HI320 := Aside0.mk (hi); (try clear hb)) | ((with_reducible refine gate_callee (f := 72) rfl ?_); refine gL (some 14) Tryd.func72 #[.agg #[.int .i64 t324, .string t325, .string t326, .string t327]] ?_; (with_reducible refine (spec_HeadText.calls k t324 t325 t326 t327 t330 t331 _ A5.out).mono ?_); rintro e w27 ⟨rfl, hb⟩; refine ⟨_, rfl, ?_⟩; replace HB := Aside0.mk (below_step (by repeat (first | (with_reducible first | exact HB.out | apply below_alloc | apply pw_below_drewN | apply below_drew1 | refine below_set ?_ (IsS93.ge HI320.out)) | exact HB.out)) hb); replace HI320 := Aside0.mk (IsS93.below (by repeat (first | (with_reducible first | exact HI320.out | apply IsS93.alloc | apply IsS93.drewN | apply IsS93.drew | apply IsS93.set_1 | apply IsS93.set_2) | exact HI320.out)) hb); (try clear hb)))
   go_ret
   exact ⟨by first | rfl | (simp [errW_none, errW_some] <;> rfl) | (simp [*, errW_none, errW_some] <;> rfl), by repeat (first | (with_reducible first | exact HB.out | apply below_alloc | apply pw_below_drewN | apply below_drew1 | refine below_set ?_ (IsS93.ge HI320.out)) | exact HB.out)⟩
end Go.Proofs.YtmiiknkfhiecgaaDoor.Pf
end
section
namespace Go.Proofs.YtmiiknkfhiecgaaDoor.Pf
open Go.RowKit Go.Proofs.YtmiiknkfhiecgaaDoorW.PrintWords Go.Proofs.YtmiiknkfhiecgaaDoorW.PrintLast Go.Proofs.YtmiiknkfhiecgaaDoorW.PrintMore
attribute [local go_sem] max2_int min2_int max_two min_two max_three min_three max_four min_four   -- for this text's walks alone
set_option linter.unusedVariables false
set_option linter.unusedSimpArgs false

/-! ### spec_ReadVar: function 74 -/
mutual
def spec_ReadVar.l0 : Nat → ByteArray → Int → Int → Int → Int → Option (Int × Int × Bool)
 | 0, _, _, _, _, _ => none
 | k + 1, x0, x1, x7, x8, x9 => if x9 < (x0.size : Int) then (spec_ReadVar.j1 k x0 x1 x7 x8 x9 (decide (x9 < (wrap64 (x1 + 5))))) else (spec_ReadVar.j1 k x0 x1 x7 x8 x9 false)
def spec_ReadVar.j1 : Nat → ByteArray → Int → Int → Int → Int → Bool → Option (Int × Int × Bool)
 | 0, _, _, _, _, _, _ => none
 | k + 1, x0, x1, x7, x8, x9, x25 => if x25 = true then (if 0 ≤ x9 then (if x9 < (x0.size : Int) then (if (bt x0 x9) < 128 then (if (wrap64 (x7 + (wrap64 ((Int.tmod (wrap64 (bt x0 x9)) 128) * x8)))) > 1000000000 then (some (0, 0, false)) else ((spec_l01Var.f k (wrap64 (x7 + (wrap64 ((Int.tmod (wrap64 (bt x0 x9)) 128) * x8))))).bind fun t336 => (if 0 ≤ x1 then (if x1 ≤ (wrap64 (x9 + 1)) then (if (wrap64 (x9 + 1)) ≤ (x0.size : Int) then (if t336.toList = (x0.extract (x1 : Int).toNat ((wrap64 (x9 + 1)) : Int).toNat).toList then (some (wrap64 (x7 + (wrap64 ((Int.tmod (wrap64 (bt x0 x9)) 128) * x8))), wrap64 (x9 + 1), true)) else (some (0, 0, false))) else (none)) else (none)) else (none)))) else (spec_ReadVar.l0 k x0 x1 (wrap64 (x7 + (wrap64 ((Int.tmod (wrap64 (bt x0 x9)) 128) * x8)))) (wrap64 (x8 * 128)) (wrap64 (x9 + 1)))) else (none)) else (none)) else (some (0, 0, false))
end
def spec_ReadVar.f (k : Nat) (a0 : ByteArray) (a1 : Int) : Option (Int × Int × Bool) := (spec_l01In.f a1 0 (a0.size : Int)).bind fun t335 => (if t335 = true then (spec_ReadVar.l0 k a0 a1 0 1 a1) else (some (0, 0, false)))
theorem spec_ReadVar.mono_l : ∀ k, (∀ y0 y1 y2 y3 y4, LeO (spec_ReadVar.l0 k y0 y1 y2 y3 y4) (spec_ReadVar.l0 (k + 1) y0 y1 y2 y3 y4)) ∧ (∀ y0 y1 y2 y3 y4 y5, LeO (spec_ReadVar.j1 k y0 y1 y2 y3 y4 y5) (spec_ReadVar.j1 (k + 1) y0 y1 y2 y3 y4 y5))
 | 0 => ⟨fun _ _ _ _ _ r h => by simp [spec_ReadVar.l0] at h, fun _ _ _ _ _ _ r h => by simp [spec_ReadVar.j1] at h⟩
 | k + 1 => by
  obtain ⟨ih0, ih1⟩ := spec_ReadVar.mono_l k
  refine ⟨?_, ?_⟩
  ·intro y0 y1 y2 y3 y4
   unfold spec_ReadVar.l0
   repeat' first
   | (with_reducible exact ih0 _ _ _ _ _)
   | (with_reducible exact ih1 _ _ _ _ _ _)
   | (with_reducible exact spec_l01Var.mono _ _)
   | (with_reducible exact LeO.refl _)
   | (with_reducible exact LeO.none _)
   | (with_reducible refine LeO.ite ?_ ?_)
   | (with_reducible refine LeO.bind ?_ (fun _ => ?_))
   | exact ih0 _ _ _ _ _
   | exact ih1 _ _ _ _ _ _
   | exact spec_l01Var.mono _ _
   | exact LeO.none _
   | refine LeO.ite ?_ ?_
   | refine LeO.bind ?_ (fun _ => ?_)
  ·intro y0 y1 y2 y3 y4 y5
   unfold spec_ReadVar.j1
   repeat' first
   | (with_reducible exact ih0 _ _ _ _ _)
   | (with_reducible exact ih1 _ _ _ _ _ _)
   | (with_reducible exact spec_l01Var.mono _ _)
   | (with_reducible exact LeO.refl _)
   | (with_reducible exact LeO.none _)
   | (with_reducible refine LeO.ite ?_ ?_)
   | (with_reducible refine LeO.bind ?_ (fun _ => ?_))
   | exact ih0 _ _ _ _ _
   | exact ih1 _ _ _ _ _ _
   | exact spec_l01Var.mono _ _
   | exact LeO.none _
   | refine LeO.ite ?_ ?_
   | refine LeO.bind ?_ (fun _ => ?_)
theorem spec_ReadVar.mono : ∀ a0 a1 k, LeO (spec_ReadVar.f k a0 a1) (spec_ReadVar.f (k + 1) a0 a1) := by
 intro a0 a1 k
 obtain ⟨ih0, ih1⟩ := spec_ReadVar.mono_l k
 unfold spec_ReadVar.f
 repeat' first
   | (with_reducible exact ih0 _ _ _ _ _)
   | (with_reducible exact ih1 _ _ _ _ _ _)
   | (with_reducible exact spec_l01Var.mono _ _)
   | (with_reducible exact LeO.refl _)
   | (with_reducible exact LeO.none _)
   | (with_reducible refine LeO.ite ?_ ?_)
   | (with_reducible refine LeO.bind ?_ (fun _ => ?_))
   | exact ih0 _ _ _ _ _
   | exact ih1 _ _ _ _ _ _
   | exact spec_l01Var.mono _ _
   | exact LeO.none _
   | refine LeO.ite ?_ ?_
   | refine LeO.bind ?_ (fun _ => ?_)
def spec_ReadVar.T11 : Bool × List (List Nat × List Nat) := (true, [([], []), ([0], [0]), ([1], [1]), ([2], [2]), ([3, 2, 2], [2, 3]), ([2], [2]), ([2], [2]), ([2], [2]), ([7, 2], [2, 7]), ([5, 6, 8, 2], [2, 5, 6, 8]), ([4, 9, 2], [2, 4, 9]), ([2, 10], [2, 10])])
def spec_ReadVar.B11 : List Nat := [0, 1, 3, 7, 15, 7, 7, 7, 135, 487, 1023, 2047]
theorem spec_ReadVar.tab11 : rtab .any (opsOf Tryd.f74 11) = spec_ReadVar.T11 := by kernel_rfl
theorem spec_ReadVar.bits11 : waitsOk spec_ReadVar.T11.2 spec_ReadVar.B11 = true := by kernel_rfl
set_option maxHeartbeats 8000000 in
set_option maxRecDepth 100000 in
theorem spec_ReadVar.calls (k : Nat) (a0 : ByteArray) (a1 : Int) (r1 : Int) (r2 : Int) (r3 : Bool) (w : World) (h : spec_ReadVar.f k a0 a1 = some (r1, r2, r3)) :
  Calls Tryd.prog 74 #[.string a0, .int .i64 a1] w fun e w' => e = .returned (.tuple #[.int .i64 r1, .int .i64 r2, .bool r3]) ∧ Below w.heap.size w w' := by
 have HB := Aside0.mk (Below.refl w.heap.size w)
 have H : ((spec_l01In.f a1 0 (a0.size : Int)).bind fun t335 => (if t335 = true then (spec_ReadVar.l0 k a0 a1 0 1 a1) else (some (0, 0, false)))) = some (r1, r2, r3) := h
 clear h
 replace H := Option.bind_eq_some_iff.mp H
 obtain ⟨t335, A30, H⟩ := H
 have A3 := Aside0.mk A30
 clear A30
 by_cases c4 : t335 = true
 ·subst c4
  rw [if_pos rfl] at H
  have H' := Aside0.mk H
  clear H
  go_enter Tryd.func74, Tryd.ntmps74
  go_wp2_with (first | ((with_reducible refine gate_callee (f := 49) rfl ?_); refine gL (some 13) Tryd.func49 #[.int .i64 a1, .int .i64 0, .int .i64 (a0.size : Int)] ?_; (with_reducible refine (spec_l01In.calls a1 0 (a0.size : Int) true _ A3.out).mono ?_); rintro e w' ⟨rfl, ⟨nd, rfl⟩⟩; refine ⟨_, rfl, ?_⟩))
  go_loopg [7, 8, 9] k (fun kq v7 v8 v9 w' => ∃ (x7_1 : Int) (x8_1 : Int) (x9_1 : Int), v7 = .int .i64 x7_1 ∧ v8 = .int .i64 x8_1 ∧ v9 = .int .i64 x9_1 ∧ Aside0 (spec_ReadVar.l0 kq a0 a1 x7_1 x8_1 x9_1 = some (r1, r2, r3)) ∧ Aside0 (kq ≤ k) ∧ Aside0 (Below w.heap.size w w'))
  case atStart => exact ⟨(0), (1), (a1), rS, rS, rS, H', ⟨Nat.le_refl _⟩, ⟨bZ HB⟩⟩
  case round =>
   clear H'
   try clear p2
   try clear c4
   obtain ⟨x7_1, x8_1, x9_1, rfl, rfl, rfl, HA, HK1, HB⟩ := hrel
   cases gk with
   | zero => exact absurd HA.out (by simp [spec_ReadVar.l0])
   | succ k1 =>
    have H := HA.out
    clear HA
    simp only [spec_ReadVar.l0] at H
    have HC5 := Aside0.mk H
    clear H
    go_upto_region 6 with (fail)
    go_cut [25] (fun v25 wc => ∃ (kq : Nat) (x25_4 : Bool), v25 = .bool x25_4 ∧ Aside0 (spec_ReadVar.j1 kq a0 a1 x7_1 x8_1 x9_1 x25_4 = some (r1, r2, r3)) ∧ Aside0 (kq ≤ k1) ∧ Aside0 (Below w.heap.size w wc))
    case first =>
     have H := HC5.out
     clear HC5
     by_cases c6 : x9_1 < (a0.size : Int)
     ·rw [if_pos c6] at H
      have c6b0 : decide (x9_1 < (a0.size : Int)) = true := decide_eq_true c6
      clear c6
      (first | rw [c6b0] | (simp only [i64_w, i32_w]; rw [c6b0]) | rw [c6b1] | skip)
      have H' := Aside0.mk H
      clear H
      go_wp2
      go_meet
      case rel => exact ⟨_, (decide (x9_1 < (wrap64 (a1 + 5)))), rS, H', ⟨by have := HK1.out; first | omega | exact Nat.le_refl _⟩, ⟨bZ HB⟩⟩
     ·rw [if_neg c6] at H
      have c6b0 : decide (x9_1 < (a0.size : Int)) = false := decide_eq_false c6
      clear c6
      (first | rw [c6b0] | (simp only [i64_w, i32_w]; rw [c6b0]) | rw [c6b1] | skip)
      have H' := Aside0.mk H
      clear H
      go_wp2
      go_meet
      case rel => exact ⟨_, (false), rS, H', ⟨by have := HK1.out; first | omega | exact Nat.le_refl _⟩, ⟨bZ HB⟩⟩
    case rest =>
     clear HC5
     try clear p2
     try clear c4
     try clear c6
     try clear c6b0
     try clear p6
     try clear p2
     obtain ⟨kq, x25_4, rfl, HA, HJ4, HB⟩ := hcut
     cases kq with
     | zero => exact absurd HA.out (by simp [spec_ReadVar.j1])
     | succ kj4 =>
      have H := HA.out
      clear HA
      simp only [spec_ReadVar.j1] at H
      by_cases c7 : x25_4 = true
      ·subst c7
       rw [if_pos rfl] at H
       by_cases c8 : 0 ≤ x9_1
       ·rw [if_pos c8] at H
        have c8b0 : decide (0 ≤ x9_1) = true := decide_eq_true c8
        clear c8
        by_cases c9 : x9_1 < (a0.size : Int)
        ·rw [if_pos c9] at H
         have c9b0 : decide (x9_1 < (a0.size : Int)) = true := decide_eq_true c9
         clear c9
         by_cases c12 : (bt a0 x9_1) < 128
         ·rw [if_pos c12] at H
          have c12b0 : decide ((bt a0 x9_1) < 128) = true := decide_eq_true c12
          clear c12
          by_cases c13 : (wrap64 (x7_1 + (wrap64 ((Int.tmod (wrap64 (bt a0 x9_1)) 128) * x8_1)))) > 1000000000
          ·rw [if_pos c13] at H
           have c13b0 : decide (1000000000 < (wrap64 (x7_1 + (wrap64 ((Int.tmod (wrap64 (bt a0 x9_1)) 128) * x8_1))))) = true := decide_eq_true c13
           clear c13
           simp only [Option.some.injEq, Prod.mk.injEq] at H
           obtain ⟨rfl, rfl, rfl⟩ := H
           have p10 : 0 ≤ (x9_1 : Int) := of_decide_eq_true (by first | (with_reducible assumption) | assumption)
           have q10 : x9_1 < (a0.size : Int) := of_decide_eq_true (by first | (with_reducible assumption) | assumption)
           have hx10 := bt_at a0 x9_1
           replace p10 := eq_true p10
           replace q10 := eq_true q10
           have p11 : 0 ≤ (x9_1 : Int) := of_decide_eq_true (by first | (with_reducible assumption) | assumption)
           have q11 : x9_1 < (a0.size : Int) := of_decide_eq_true (by first | (with_reducible assumption) | assumption)
           have hx11 := bt_at a0 x9_1
           replace p11 := eq_true p11
           replace q11 := eq_true q11
           try go_wp2
           replace HB := Aside0.mk (below_drew1 HB.out)
           refine start_ (n := 12) (S := fun w' => True) (ds := []) #[false, false, false, false, false, false, false, false, false, false, false, false] (by kernel_rfl) rfl rfl trivial (fun hHeld => ?_); refine with_tabW spec_ReadVar.tab11 spec_ReadVar.bits11 (fun HT_ HW_ => ?_)
           generalize wc.drew = w14 at HB hHeld ⊢
           refine pI 0 (some 43) HT_.out ?_
           refine pI 1 (some 44) HT_.out ?_
           refine pI 2 (some 45) HT_.out ?_
           refine pure_ (i := 3) (N := some 46) (v := undef) (a' := ?_) #[true, true, true, true, false, false, false, false, false, false, false, false] rfl rfl (any_of HT_.out (by kernel_rfl)) (fun _ _ _ h => h) (Or.inr ⟨by rfl, rfl⟩) ?_ ?_
           rotate_left
           ·simp only [Act.put, List.setIfInBounds_toArray, List.set_cons_zero, List.set_cons_succ, i64_w, i32_w]
            rfl
           refine pure_ (i := 4) (N := some 47) (v := undef) (a' := ?_) #[true, true, true, true, true, false, false, false, false, false, false, false] rfl rfl (any_of HT_.out (by kernel_rfl)) (fun _ _ _ h => h) (Or.inr ⟨by rfl, rfl⟩) ?_ ?_
           rotate_left
           ·simp only [Act.put, List.setIfInBounds_toArray, List.set_cons_zero, List.set_cons_succ, i64_w, i32_w]
            rfl
           refine pure_ (i := 5) (N := some 48) (v := undef) (a' := ?_) #[true, true, true, true, true, true, false, false, false, false, false, false] rfl rfl (any_of HT_.out (by kernel_rfl)) (fun _ _ _ h => h) (Or.inr ⟨by rfl, rfl⟩) ?_ ?_
           rotate_left
           ·simp only [Act.put, List.setIfInBounds_toArray, List.set_cons_zero, List.set_cons_succ, i64_w, i32_w]
            rfl
           refine pure_ (i := 6) (N := some 49) (v := undef) (a' := ?_) #[true, true, true, true, true, true, true, false, false, false, false, false] rfl rfl (any_of HT_.out (by kernel_rfl)) (fun _ _ _ h => h) (Or.inr ⟨by rfl, rfl⟩) ?_ ?_
           rotate_left
           ·simp only [Act.put, List.setIfInBounds_toArray, List.set_cons_zero, List.set_cons_succ, i64_w, i32_w]
            rfl
           refine pure_ (i := 7) (N := some 50) (v := undef) (a' := ?_) #[true, true, true, true, true, true, true, true, false, false, false, false] rfl rfl (any_of HT_.out (by kernel_rfl)) (fun _ _ _ h => h) (Or.inr ⟨by rfl, rfl⟩) ?_ ?_
           rotate_left
           ·simp only [Act.put, List.setIfInBounds_toArray, List.set_cons_zero, List.set_cons_succ, i64_w, i32_w]
            rfl
           refine pure_ (i := 8) (N := some 51) (v := undef) (a' := ?_) #[true, true, true, true, true, true, true, true, true, false, false, false] rfl rfl (any_of HT_.out (by kernel_rfl)) (fun _ _ _ h => h) (Or.inr ⟨by rfl, rfl⟩) ?_ ?_
           rotate_left
           ·simp only [Act.put, List.setIfInBounds_toArray, List.set_cons_zero, List.set_cons_succ, i64_w, i32_w]
            rfl
           refine pure_ (i := 9) (N := some 52) (v := undef) (a' := ?_) #[true, true, true, true, true, true, true, true, true, true, false, false] rfl rfl (any_of HT_.out (by kernel_rfl)) (fun _ _ _ h => h) (Or.inr ⟨by rfl, rfl⟩) ?_ ?_
           rotate_left
           ·simp only [Act.put, List.setIfInBounds_toArray, List.set_cons_zero, List.set_cons_succ, i64_w, i32_w]
            rfl
           refine pure_ (i := 10) (N := some 53) (v := undef) (a' := ?_) #[true, true, true, true, true, true, true, true, true, true, true, false] rfl rfl (any_of HT_.out (by kernel_rfl)) (fun _ _ _ h => h) (Or.inr ⟨by rfl, rfl⟩) ?_ ?_
           rotate_left
           ·simp only [Act.put, List.setIfInBounds_toArray, List.set_cons_zero, List.set_cons_succ, i64_w, i32_w]
            rfl
           refine pI 11 (some 54) HT_.out ?_
           refine done_ (done_of HT_.out (by kernel_rfl)) ?_
           try go_wp2
           go_ret3
           exact ⟨rR, bZ HB⟩
          ·rw [if_neg c13] at H
           have c13b0 : decide (1000000000 < (wrap64 (x7_1 + (wrap64 ((Int.tmod (wrap64 (bt a0 x9_1)) 128) * x8_1))))) = false := decide_eq_false c13
           clear c13
           replace H := Option.bind_eq_some_iff.mp H
           obtain ⟨t336, A150, H⟩ := H
           have A15 := Aside0.mk A150
           clear A150
           by_cases c16 : 0 ≤ a1
           ·rw [if_pos c16] at H
            have c16b0 := eq_true c16
            have c16b1 : decide (0 ≤ a1) = true := decide_eq_true c16
            clear c16
            by_cases c17 : a1 ≤ (wrap64 (x9_1 + 1))
            ·rw [if_pos c17] at H
             have c17b0 := eq_true c17
             have c17b1 : decide (a1 ≤ (wrap64 (x9_1 + 1))) = true := decide_eq_true c17
             by_cases c18 : (wrap64 (x9_1 + 1)) ≤ (a0.size : Int)
             ·rw [if_pos c18] at H
              have c18b0 := eq_true c18
              have c18b1 : decide ((wrap64 (x9_1 + 1)) ≤ (a0.size : Int)) = true := decide_eq_true c18
              by_cases c19 : t336.toList = (a0.extract (a1 : Int).toNat ((wrap64 (x9_1 + 1)) : Int).toNat).toList
              ·rw [if_pos c19] at H
               have c19b0 : (t336.toList == (a0.extract (a1 : Int).toNat ((wrap64 (x9_1 + 1)) : Int).toNat).toList) = true := beq_iff_eq.mpr c19
               have c19b1 : (t336.toList != (a0.extract (a1 : Int).toNat ((wrap64 (x9_1 + 1)) : Int).toNat).toList) = false := bne_eq_false_iff_eq.mpr c19
               clear c19
               simp only [Option.some.injEq, Prod.mk.injEq] at H
               obtain ⟨rfl, rfl, rfl⟩ := H
               have p10 : 0 ≤ (x9_1 : Int) := of_decide_eq_true (by first | (with_reducible assumption) | assumption)
               have q10 : x9_1 < (a0.size : Int) := of_decide_eq_true (by first | (with_reducible assumption) | assumption)
               have hx10 := bt_at a0 x9_1
               replace p10 := eq_true p10
               replace q10 := eq_true q10
               have p11 : 0 ≤ (x9_1 : Int) := of_decide_eq_true (by first | (with_reducible assumption) | assumption)
               have q11 : x9_1 < (a0.size : Int) := of_decide_eq_true (by first | (with_reducible assumption) | assumption)
               have hx11 := bt_at a0 x9_1
               replace p11 := eq_true p11
               replace q11 := eq_true q11
               try go_wp2
               replace HB := Aside0.mk (below_drew1 HB.out)
               refine start_ (n := 12) (S := fun w' => True) (ds := []) #[false, false, false, false, false, false, false, false, false, false, false, false] (by kernel_rfl) rfl rfl trivial (fun hHeld => ?_); refine with_tabW spec_ReadVar.tab11 spec_ReadVar.bits11 (fun HT_ HW_ => ?_)
               generalize wc.drew = w20 at HB hHeld ⊢
               refine pI 0 (some 43) HT_.out ?_
               refine pI 1 (some 44) HT_.out ?_
               refine pI 2 (some 45) HT_.out ?_
               refine pI 3 (some 46) HT_.out ?_
               refine pI 5 (some 48) HT_.out ?_
               refine pI 6 (some 49) HT_.out ?_
               refine pI 7 (some 50) HT_.out ?_
               refine pI 8 (some 51) HT_.out ?_
               refine pI 9 (some 52) HT_.out ?_
               refine oI 4 (some 47) HT_.out (fun K hK => ?_)
               refine gO Tryd.func56 #[.int .i64 (wrap64 (x7_1 + (wrap64 ((Int.tmod (wrap64 (bt a0 x9_1)) 128) * x8_1))))] ?_
               with_reducible refine (spec_l01Var.calls kj4 (wrap64 (x7_1 + (wrap64 ((Int.tmod (wrap64 (bt a0 x9_1)) 128) * x8_1)))) t336 _ A15.out).mono ?_
               rintro e w21 ⟨rfl, hb⟩
               refine ⟨_, rfl, ?_⟩
               replace HB := bS HB hb
               (try clear hb)
               refine hK.out _ _ trivial (fun hHeld => ?_)
               clear hK K
               refine nO (some 47) ?_
               refine pI 10 (some 53) HT_.out ?_
               refine pI 11 (some 54) HT_.out ?_
               refine done_ (done_of HT_.out (by kernel_rfl)) ?_
               try go_wp2
               go_ret3
               exact ⟨rR, bZ HB⟩
              ·rw [if_neg c19] at H
               have c19b0 : (t336.toList == (a0.extract (a1 : Int).toNat ((wrap64 (x9_1 + 1)) : Int).toNat).toList) = false := beq_eq_false_iff_ne.mpr c19
               have c19b1 : (t336.toList != (a0.extract (a1 : Int).toNat ((wrap64 (x9_1 + 1)) : Int).toNat).toList) = true := bne_iff_ne.mpr c19
               simp only [Option.some.injEq, Prod.mk.injEq] at H
               obtain ⟨rfl, rfl, rfl⟩ := H
               have p10 : 0 ≤ (x9_1 : Int) := of_decide_eq_true (by first | (with_reducible assumption) | assumption)
               have q10 : x9_1 < (a0.size : Int) := of_decide_eq_true (by first | (with_reducible assumption) | assumption)
               have hx10 := bt_at a0 x9_1
               replace p10 := eq_true p10
               replace q10 := eq_true q10
               have p11 : 0 ≤ (x9_1 : Int) := of_decide_eq_true (by first | (with_reducible assumption) | assumption)
               have q11 : x9_1 < (a0.size : Int) := of_decide_eq_true (by first | (with_reducible assumption) | assumption)
               have hx11 := bt_at a0 x9_1
               replace p11 := eq_true p11
               replace q11 := eq_true q11
               try go_wp2
               replace HB := Aside0.mk (below_drew1 HB.out)
               refine start_ (n := 12) (S := fun w' => True) (ds := []) #[false, false, false, false, false, false, false, false, false, false, false, false] (by kernel_rfl) rfl rfl trivial (fun hHeld => ?_); refine with_tabW spec_ReadVar.tab11 spec_ReadVar.bits11 (fun HT_ HW_ => ?_)
               generalize wc.drew = w22 at HB hHeld ⊢
               refine pI 0 (some 43) HT_.out ?_
               refine pI 1 (some 44) HT_.out ?_
               refine pI 2 (some 45) HT_.out ?_
               refine pI 3 (some 46) HT_.out ?_
               refine pI 5 (some 48) HT_.out ?_
               refine pI 6 (some 49) HT_.out ?_
               refine pI 7 (some 50) HT_.out ?_
               refine pI 8 (some 51) HT_.out ?_
               refine pI 9 (some 52) HT_.out ?_
               refine oI 4 (some 47) HT_.out (fun K hK => ?_)
               refine gO Tryd.func56 #[.int .i64 (wrap64 (x7_1 + (wrap64 ((Int.tmod (wrap64 (bt a0 x9_1)) 128) * x8_1))))] ?_
               with_reducible refine (spec_l01Var.calls kj4 (wrap64 (x7_1 + (wrap64 ((Int.tmod (wrap64 (bt a0 x9_1)) 128) * x8_1)))) t336 _ A15.out).mono ?_
               rintro e w23 ⟨rfl, hb⟩
               refine ⟨_, rfl, ?_⟩
               replace HB := bS HB hb
               (try clear hb)
               refine hK.out _ _ trivial (fun hHeld => ?_)
               clear hK K
               refine nO (some 47) ?_
               refine pI 10 (some 53) HT_.out ?_
               refine pI 11 (some 54) HT_.out ?_
               refine done_ (done_of HT_.out (by kernel_rfl)) ?_
               try go_wp2
               go_ret3
               exact ⟨rR, bZ HB⟩
             ·rw [if_neg c18] at H
              exact absurd H (by simp)
            ·rw [if_neg c17] at H
             exact absurd H (by simp)
           ·rw [if_neg c16] at H
            exact absurd H (by simp)
         ·rw [if_neg c12] at H
          have c12b0 : decide ((bt a0 x9_1) < 128) = false := decide_eq_false c12
          clear c12
          have H' := Aside0.mk H
          clear H
          have p10 : 0 ≤ (x9_1 : Int) := of_decide_eq_true (by first | (with_reducible assumption) | assumption)
          have q10 : x9_1 < (a0.size : Int) := of_decide_eq_true (by first | (with_reducible assumption) | assumption)
          have hx10 := bt_at a0 x9_1
          replace p10 := eq_true p10
          replace q10 := eq_true q10
          have p11 : 0 ≤ (x9_1 : Int) := of_decide_eq_true (by first | (with_reducible assumption) | assumption)
          have q11 : x9_1 < (a0.size : Int) := of_decide_eq_true (by first | (with_reducible assumption) | assumption)
          have hx11 := bt_at a0 x9_1
          replace p11 := eq_true p11
          replace q11 := eq_true q11
          go_wp2
          go_roundg kj4
          case measure => have := HK1.out; have := HJ4.out; omega
          case rel => exact ⟨(wrap64 (x7_1 + (wrap64 ((Int.tmod (wrap64 (bt a0 x9_1)) 128) * x8_1)))), (wrap64 (x8_1 * 128)), (wrap64 (x9_1 + 1)), rS, rS, rS, H', ⟨by have := HK1.out; have := HJ4.out; omega⟩, ⟨bZ HB⟩⟩
        ·rw [if_neg c9] at H
         exact absurd H (by simp)
       ·rw [if_neg c8] at H
        exact absurd H (by simp)
      ·replace c7 := Bool.eq_false_iff.mpr c7
       subst c7
       rw [if_neg (show ¬ (false = true) by decide)] at H
       simp only [Option.some.injEq, Prod.mk.injEq] at H
       obtain ⟨rfl, rfl, rfl⟩ := H
       go_wp2
       go_ret3
       exact ⟨rR, bZ HB⟩
 ·replace c4 := Bool.eq_false_iff.mpr c4
  subst c4
  rw [if_neg (show ¬ (false = true) by decide)] at H
  simp only [Option.some.injEq, Prod.mk.injEq] at H
  obtain ⟨rfl, rfl, rfl⟩ := H
  go_enter Tryd.func74, Tryd.ntmps74
  go_wp2_with (first | ((with_reducible refine gate_callee (f := 49) rfl ?_); refine gL (some 13) Tryd.func49 #[.int .i64 a1, .int .i64 0, .int .i64 (a0.size : Int)] ?_; (with_reducible refine (spec_l01In.calls a1 0 (a0.size : Int) false _ A3.out).mono ?_); rintro e w' ⟨rfl, ⟨nd, rfl⟩⟩; refine ⟨_, rfl, ?_⟩))
  go_ret3
  exact ⟨rR, bZ HB⟩

end Go.Proofs.YtmiiknkfhiecgaaDoor.Pf
end
section
namespace Go.Proofs.YtmiiknkfhiecgaaDoor.Pf
open Go.RowKit Go.Proofs.YtmiiknkfhiecgaaDoorW.PrintWords Go.Proofs.YtmiiknkfhiecgaaDoorW.PrintLast Go.Proofs.YtmiiknkfhiecgaaDoorW.PrintMore
attribute [local go_sem] max2_int min2_int max_two min_two max_three min_three max_four min_four   -- for this text's walks alone
set_option linter.unusedVariables false
set_option linter.unusedSimpArgs false
/-! ### spec_ReadHead: function 44 -/
def spec_ReadHead.j0 : Nat → ByteArray → Int → Int → Bool → Option (Int × ByteArray × ByteArray × ByteArray × Bool)
 | 0, _, _, _, _ => none
 | k + 1, x0, x4, x5, x22 => if x22 = true then (some (0, (⟨#[]⟩ : ByteArray), (⟨#[]⟩ : ByteArray), (⟨#[]⟩ : ByteArray), false)) else (if 0 ≤ x5 then (if x5 ≤ (wrap64 (x5 + 32)) then (if (wrap64 (x5 + 32)) ≤ (x0.size : Int) then (if 0 ≤ (wrap64 (x5 + 32)) then (if (wrap64 (x5 + 32)) ≤ (wrap64 (x5 + 64)) then (if (wrap64 (x5 + 64)) ≤ (x0.size : Int) then (if 0 ≤ (wrap64 (x5 + 64)) then ((spec_HeadOk.f x4 (x0.extract (x5 : Int).toNat ((wrap64 (x5 + 32)) : Int).toNat) (x0.extract ((wrap64 (x5 + 32)) : Int).toNat ((wrap64 (x5 + 64)) : Int).toNat) (x0.extract ((wrap64 (x5 + 64)) : Int).toNat x0.size)).bind fun t342 => (if t342 = true then (some (x4, x0.extract (x5 : Int).toNat ((wrap64 (x5 + 32)) : Int).toNat, x0.extract ((wrap64 (x5 + 32)) : Int).toNat ((wrap64 (x5 + 64)) : Int).toNat, x0.extract ((wrap64 (x5 + 64)) : Int).toNat x0.size, true)) else (some (0, (⟨#[]⟩ : ByteArray), (⟨#[]⟩ : ByteArray), (⟨#[]⟩ : ByteArray), false)))) else (none)) else (none)) else (none)) else (none)) else (none)) else (none)) else (none))
def spec_ReadHead.f (k : Nat) (a0 : ByteArray) : Option (Int × ByteArray × ByteArray × ByteArray × Bool) := (spec_ReadVar.f k a0 0).bind fun bt338 => (if bt338.2.2 = true then (spec_ReadHead.j0 k a0 bt338.1 bt338.2.1 ((a0.size : Int) != (wrap64 (bt338.2.1 + 96)))) else (spec_ReadHead.j0 k a0 bt338.1 bt338.2.1 true))
theorem spec_ReadHead.mono_l : ∀ k, (∀ y0 y1 y2 y3, LeO (spec_ReadHead.j0 k y0 y1 y2 y3) (spec_ReadHead.j0 (k + 1) y0 y1 y2 y3))
 | 0 => fun _ _ _ _ r h => by simp [spec_ReadHead.j0] at h
 | k + 1 => by
  have ih0 := spec_ReadHead.mono_l k
  ·intro y0 y1 y2 y3
   unfold spec_ReadHead.j0
   repeat' first
   | (with_reducible exact ih0 _ _ _ _)
   | (with_reducible exact spec_ReadVar.mono _ _ _)
   | (with_reducible exact LeO.refl _)
   | (with_reducible exact LeO.none _)
   | (with_reducible refine LeO.ite ?_ ?_)
   | (with_reducible refine LeO.bind ?_ (fun _ => ?_))
   | exact ih0 _ _ _ _
   | exact spec_ReadVar.mono _ _ _
   | exact LeO.none _
   | refine LeO.ite ?_ ?_
   | refine LeO.bind ?_ (fun _ => ?_)
theorem spec_ReadHead.mono : ∀ a0 k, LeO (spec_ReadHead.f k a0) (spec_ReadHead.f (k + 1) a0) := by
 intro a0 k
 have ih0 := spec_ReadHead.mono_l k
 unfold spec_ReadHead.f
 repeat' first
   | (with_reducible exact ih0 _ _ _ _)
   | (with_reducible exact spec_ReadVar.mono _ _ _)
   | (with_reducible exact LeO.refl _)
   | (with_reducible exact LeO.none _)
   | (with_reducible refine LeO.ite ?_ ?_)
   | (with_reducible refine LeO.bind ?_ (fun _ => ?_))
   | exact ih0 _ _ _ _
   | exact spec_ReadVar.mono _ _ _
   | exact LeO.none _
   | refine LeO.ite ?_ ?_
   | refine LeO.bind ?_ (fun _ => ?_)
def spec_ReadHead.T4 : Bool × List (List Nat × List Nat) := (true, [([], []), ([], []), ([], []), ([], []), ([3], [3]), ([1, 2, 4], [1, 2, 4]), ([], []), ([], []), ([7], [7]), ([], []), ([9], [9]), ([6, 8, 10], [6, 8, 10]), ([], []), ([], []), ([13], [13]), ([12, 14], [12, 14]), ([0, 5, 11, 15], [0, 5, 11, 15]), ([], []), ([17, 16, 0, 1, 2, 3, 4, 5, 6, 7, 8, 9, 10, 11, 12, 13, 14, 15, 16, 17], [16, 17])])
def spec_ReadHead.B4 : List Nat := [0, 0, 0, 0, 8, 30, 0, 0, 128, 0, 512, 1984, 0, 0, 8192, 28672, 65535, 0, 262143]
theorem spec_ReadHead.tab4 : rtab .any (opsOf Tryd.f44 4) = spec_ReadHead.T4 := by kernel_rfl
theorem spec_ReadHead.bits4 : waitsOk spec_ReadHead.T4.2 spec_ReadHead.B4 = true := by kernel_rfl
set_option maxHeartbeats 8000000 in
set_option maxRecDepth 100000 in
theorem spec_ReadHead.calls (k : Nat) (a0 : ByteArray) (r1 : Int) (r2 : ByteArray) (r3 : ByteArray) (r4 : ByteArray) (r5 : Bool) (w : World) (h : spec_ReadHead.f k a0 = some (r1, r2, r3, r4, r5)) :
  Calls Tryd.prog 44 #[.string a0] w fun e w' => e = .returned (.tuple #[.agg #[.int .i64 r1, .string r2, .string r3, .string r4], .bool r5]) ∧ Below w.heap.size w w' := by
 have hu34 := Tryd.underlying34
 have HB := Aside0.mk (Below.refl w.heap.size w)
 have H : ((spec_ReadVar.f k a0 0).bind fun bt338 => (if bt338.2.2 = true then (spec_ReadHead.j0 k a0 bt338.1 bt338.2.1 ((a0.size : Int) != (wrap64 (bt338.2.1 + 96)))) else (spec_ReadHead.j0 k a0 bt338.1 bt338.2.1 true))) = some (r1, r2, r3, r4, r5) := h
 clear h
 replace H := Option.bind_eq_some_iff.mp H
 obtain ⟨⟨t338, t339, t340⟩, A20, H⟩ := H
 have A2 := Aside0.mk A20
 clear A20
 have HC3 := Aside0.mk H
 clear H
 go_enter Tryd.func44, Tryd.ntmps44
 go_upto_region 2 with (first | ((with_reducible refine gate_dst (N := 2) rfl ?_); (try (refine gate_guard (by rfl) ?_; dsimp only)); refine box_event ?hg (N := 2) ?hd (cs := #[.int .i64 0, .string (⟨#[]⟩ : ByteArray), .string (⟨#[]⟩ : ByteArray), .string (⟨#[]⟩ : ByteArray)]) (t := 34) ?hr ?_; (case hd => rfl); (case hg => rfl); (case hr => first | (go_simp; done) | (go_simp; rfl)); intro gb337 hg w4 hbox hb; have BK337 := Aside0.mk (hbox); have GW337 := bG HB hg; have GE337 := bG HB hg; replace HB := bS HB hb; clear hb hbox hg) | ((with_reducible refine gate_callee (f := 74) rfl ?_); refine gL (some 10) Tryd.func74 #[.string a0, .int .i64 0] ?_; (with_reducible refine (spec_ReadVar.calls k a0 0 t338 t339 t340 _ A2.out).mono ?_); rintro e w5 ⟨rfl, hb⟩; refine ⟨_, rfl, ?_⟩; replace BK337 := Aside0.mk (blk_below (g := gb337) (o := .cells #[.int .i64 0, .string (⟨#[]⟩ : ByteArray), .string (⟨#[]⟩ : ByteArray), .string (⟨#[]⟩ : ByteArray)] 34 (0, 0)) (bP BK337) hb); replace HB := bS HB hb; (try clear hb)))
 (try simp only [Act.put, List.setIfInBounds_toArray, List.set_cons_zero, List.set_cons_succ])
 go_cut [22] (fun v22 wc => ∃ (kq : Nat) (x22_2 : Bool), v22 = .bool x22_2 ∧ Aside0 (spec_ReadHead.j0 kq a0 t338 t339 x22_2 = some (r1, r2, r3, r4, r5)) ∧ Aside0 (kq ≤ k) ∧ Aside0 (wc.heap[gb337]? = some (.cells #[.int .i64 0, .string (⟨#[]⟩ : ByteArray), .string (⟨#[]⟩ : ByteArray), .string (⟨#[]⟩ : ByteArray)] 34 (0, 0))) ∧ Aside0 (Below w.heap.size w wc))
 case first =>
  have H := HC3.out
  clear HC3
  by_cases c6 : t340 = true
  ·subst c6
   rw [if_pos rfl] at H
   have H' := Aside0.mk H
   clear H
   go_wp2
   go_meet
   case rel => exact ⟨_, (((a0.size : Int) != (wrap64 (t339 + 96)))), rS, H', ⟨by first | omega | exact Nat.le_refl _⟩, ⟨bP BK337⟩, ⟨bZ HB⟩⟩
  ·replace c6 := Bool.eq_false_iff.mpr c6
   subst c6
   rw [if_neg (show ¬ (false = true) by decide)] at H
   have H' := Aside0.mk H
   clear H
   go_wp2
   go_meet
   case rel => exact ⟨_, (true), rS, H', ⟨by first | omega | exact Nat.le_refl _⟩, ⟨bP BK337⟩, ⟨bZ HB⟩⟩
 case rest =>
  clear HC3
  try clear p2
  try clear c4
  try clear c6
  try clear p6
  obtain ⟨kq, x22_2, rfl, HA, HJ2, BK337, HB⟩ := hcut
  cases kq with
  | zero => exact absurd HA.out (by simp [spec_ReadHead.j0])
  | succ kj2 =>
   have H := HA.out
   clear HA
   simp only [spec_ReadHead.j0] at H
   by_cases c7 : x22_2 = true
   ·subst c7
    rw [if_pos rfl] at H
    simp only [Option.some.injEq, Prod.mk.injEq] at H
    obtain ⟨rfl, rfl, rfl, rfl, rfl⟩ := H
    obtain ⟨hcz8_0, hcz8_1, hcz8_2, hcz8_3, hfz8_0, hfz8_1, hfz8_2, hfz8_3⟩ := bK4 (w := wc) BK337
    go_wp2
    refine bodyPost_ret (results_ct rfl _ _ gb337 34 #[.int .i64 0, .string (⟨#[]⟩ : ByteArray), .string (⟨#[]⟩ : ByteArray), .string (⟨#[]⟩ : ByteArray)] (0, 0) _ rfl (bU BK337) Tryd.underlying34 rfl (by kernel_rfl)) rfl ?_
    exact ⟨rR, bZ HB⟩
   ·replace c7 := Bool.eq_false_iff.mpr c7
    subst c7
    rw [if_neg (show ¬ (false = true) by decide)] at H
    by_cases c9 : 0 ≤ t339
    ·rw [if_pos c9] at H
     have c9b0 := eq_true c9
     have c9b1 : decide (0 ≤ t339) = true := decide_eq_true c9
     clear c9
     by_cases c10 : t339 ≤ (wrap64 (t339 + 32))
     ·rw [if_pos c10] at H
      have c10b0 := eq_true c10
      have c10b1 : decide (t339 ≤ (wrap64 (t339 + 32))) = true := decide_eq_true c10
      by_cases c11 : (wrap64 (t339 + 32)) ≤ (a0.size : Int)
      ·rw [if_pos c11] at H
       have c11b0 := eq_true c11
       have c11b1 : decide ((wrap64 (t339 + 32)) ≤ (a0.size : Int)) = true := decide_eq_true c11
       obtain ⟨ji12, hji12⟩ : ∃ j_ : Int, (wrap64 (t339 + 32)) = j_ := ⟨_, rfl⟩
       replace H : (if 0 ≤ (ji12) then (if (ji12) ≤ (wrap64 (t339 + 64)) then (if (wrap64 (t339 + 64)) ≤ (a0.size : Int) then (if 0 ≤ (wrap64 (t339 + 64)) then ((spec_HeadOk.f t338 (a0.extract (t339 : Int).toNat ((ji12) : Int).toNat) (a0.extract ((ji12) : Int).toNat ((wrap64 (t339 + 64)) : Int).toNat) (a0.extract ((wrap64 (t339 + 64)) : Int).toNat a0.size)).bind fun t342 => (if t342 = true then (some (t338, a0.extract (t339 : Int).toNat ((ji12) : Int).toNat, a0.extract ((ji12) : Int).toNat ((wrap64 (t339 + 64)) : Int).toNat, a0.extract ((wrap64 (t339 + 64)) : Int).toNat a0.size, true)) else (some (0, (⟨#[]⟩ : ByteArray), (⟨#[]⟩ : ByteArray), (⟨#[]⟩ : ByteArray), false)))) else (none)) else (none)) else (none)) else (none)) = some (r1, r2, r3, r4, r5) := by first | (rw [hji12] at H; exact H) | (simp only [hji12] at H ⊢; exact H)
       (try rw [hji12] at c10b0)
       (try rw [hji12] at c10b1)
       (try rw [hji12] at c10)
       (try rw [hji12] at c11b0)
       (try rw [hji12] at c11b1)
       (try rw [hji12] at c11)
       have hji12w : (IntKind.i64.wrap (t339 + 32)) = ji12 := (i64_w _).trans hji12
       by_cases c13 : 0 ≤ (ji12)
       ·rw [if_pos c13] at H
        have c13b0 := eq_true c13
        have c13b1 : decide (0 ≤ (ji12)) = true := decide_eq_true c13
        clear c13
        by_cases c14 : (ji12) ≤ (wrap64 (t339 + 64))
        ·rw [if_pos c14] at H
         have c14b0 := eq_true c14
         have c14b1 : decide ((ji12) ≤ (wrap64 (t339 + 64))) = true := decide_eq_true c14
         by_cases c15 : (wrap64 (t339 + 64)) ≤ (a0.size : Int)
         ·rw [if_pos c15] at H
          have c15b0 := eq_true c15
          have c15b1 : decide ((wrap64 (t339 + 64)) ≤ (a0.size : Int)) = true := decide_eq_true c15
          obtain ⟨ji16, hji16⟩ : ∃ j_ : Int, (wrap64 (t339 + 64)) = j_ := ⟨_, rfl⟩
          replace H : (if 0 ≤ (ji16) then ((spec_HeadOk.f t338 (a0.extract (t339 : Int).toNat ((ji12) : Int).toNat) (a0.extract ((ji12) : Int).toNat ((ji16) : Int).toNat) (a0.extract ((ji16) : Int).toNat a0.size)).bind fun t342 => (if t342 = true then (some (t338, a0.extract (t339 : Int).toNat ((ji12) : Int).toNat, a0.extract ((ji12) : Int).toNat ((ji16) : Int).toNat, a0.extract ((ji16) : Int).toNat a0.size, true)) else (some (0, (⟨#[]⟩ : ByteArray), (⟨#[]⟩ : ByteArray), (⟨#[]⟩ : ByteArray), false)))) else (none)) = some (r1, r2, r3, r4, r5) := by first | (rw [hji16] at H; exact H) | (simp only [hji16] at H ⊢; exact H)
          (try rw [hji16] at c14b0)
          (try rw [hji16] at c14b1)
          (try rw [hji16] at c14)
          (try rw [hji16] at c15b0)
          (try rw [hji16] at c15b1)
          (try rw [hji16] at c15)
          have hji16w : (IntKind.i64.wrap (t339 + 64)) = ji16 := (i64_w _).trans hji16
          by_cases c17 : 0 ≤ (ji16)
          ·rw [if_pos c17] at H
           have c17b0 := eq_true c17
           have c17b1 : decide (0 ≤ (ji16)) = true := decide_eq_true c17
           clear c17
           have c18b0 := eq_true (of_decide_eq_true (by first | (with_reducible assumption) | assumption) : (ji16) ≤ (a0.size : Int))
           replace H := Option.bind_eq_some_iff.mp H
           obtain ⟨t342, A190, H⟩ := H
           have A19 := Aside0.mk A190
           clear A190
           by_cases c20 : t342 = true
           ·subst c20
            rw [if_pos rfl] at H
            simp only [Option.some.injEq, Prod.mk.injEq] at H
            obtain ⟨rfl, rfl, rfl, rfl, rfl⟩ := H
            try go_wp2
            replace BK337 := Aside0.mk (blk_drew BK337.out)
            replace HB := Aside0.mk (below_drew1 HB.out)
            refine start_ (n := 19) (S := fun w' => True) (ds := []) #[false, false, false, false, false, false, false, false, false, false, false, false, false, false, false, false, false, false, false] (by kernel_rfl) rfl rfl trivial (fun hHeld => ?_); refine with_tabW spec_ReadHead.tab4 spec_ReadHead.bits4 (fun HT_ HW_ => ?_)
            generalize wc.drew = w21 at BK337 HB hHeld ⊢
            refine pI 0 (some 24) HT_.out ?_
            refine pI 1 (some 25) HT_.out ?_
            refine pI 2 (some 26) HT_.out ?_
            refine pI 3 (some 27) HT_.out ?_
            refine pI 4 (some 28) HT_.out ?_
            refine pI 5 (some 29) HT_.out ?_
            refine pI 6 (some 30) HT_.out ?_
            refine pI 7 (some 31) HT_.out ?_
            refine pI 8 (some 32) HT_.out ?_
            refine pI 9 (some 33) HT_.out ?_
            refine pI 10 (some 34) HT_.out ?_
            refine pI 11 (some 35) HT_.out ?_
            refine pI 12 (some 36) HT_.out ?_
            refine pI 13 (some 37) HT_.out ?_
            refine pI 14 (some 38) HT_.out ?_
            refine pI 15 (some 39) HT_.out ?_
            refine pI 16 (some 40) HT_.out ?_
            refine oI 17 (some 7) HT_.out (fun K hK => ?_)
            refine box_step ?hg (N := 7) ?hd (cs := #[.int .i64 0, .string (⟨#[]⟩ : ByteArray), .string (⟨#[]⟩ : ByteArray), .string (⟨#[]⟩ : ByteArray)]) (t := 34) ?hr ?_; (case hd => rfl); (case hg => rfl); (case hr => first | (go_simp; done) | (go_simp; rfl))
            intro gb341 hg w22 hbox hb
            have BK341 := Aside0.mk (hbox)
            have GW341 := bG HB hg
            have GE341 := bG HB hg
            replace HB := bS HB hb
            have NB337_341 := Aside0.mk ((by rw [hg]; exact Nat.ne_of_lt (blk_lt (g := gb337) (o := .cells #[.int .i64 0, .string (⟨#[]⟩ : ByteArray), .string (⟨#[]⟩ : ByteArray), .string (⟨#[]⟩ : ByteArray)] 34 (0, 0)) (bP BK337)) : gb337 ≠ gb341))
            have NB341_337 := Aside0.mk ((by rw [hg]; exact Nat.ne_of_gt (blk_lt (g := gb337) (o := .cells #[.int .i64 0, .string (⟨#[]⟩ : ByteArray), .string (⟨#[]⟩ : ByteArray), .string (⟨#[]⟩ : ByteArray)] 34 (0, 0)) (bP BK337)) : gb341 ≠ gb337))
            replace BK337 := Aside0.mk (blk_below (g := gb337) (o := .cells #[.int .i64 0, .string (⟨#[]⟩ : ByteArray), .string (⟨#[]⟩ : ByteArray), .string (⟨#[]⟩ : ByteArray)] 34 (0, 0)) (bP BK337) hb)
            clear hb hbox hg
            refine hK.out _ _ trivial (fun hHeld => ?_)
            clear hK K
            refine nO (some 7) ?_
            refine oI 18 (none) HT_.out (fun K hK => ?_)
            have hs23 : w22.cell? ⟨gb341, 0, none⟩ = some (.int .i64 0) := bc BK341 0
            have hfs23 := blk_frozen BK341.out 0
            obtain ⟨hns23_0, hms23_0⟩ := nB NB337_341
            have hs24 : w22.cell? ⟨gb341, 1, none⟩ = some (.string (⟨#[]⟩ : ByteArray)) := bc BK341 1
            have hfs24 := blk_frozen BK341.out 1
            obtain ⟨hns24_0, hms24_0⟩ := nB NB337_341
            have hs25 : w22.cell? ⟨gb341, 2, none⟩ = some (.string (⟨#[]⟩ : ByteArray)) := bc BK341 2
            have hfs25 := blk_frozen BK341.out 2
            obtain ⟨hns25_0, hms25_0⟩ := nB NB337_341
            have hs26 : w22.cell? ⟨gb341, 3, none⟩ = some (.string (⟨#[]⟩ : ByteArray)) := bc BK341 3
            have hfs26 := blk_frozen BK341.out 3
            obtain ⟨hns26_0, hms26_0⟩ := nB NB337_341
            refine skip_ (w1 := ?_) (by rfl) rfl ?_ ?_
            rotate_left
            ·go_simp
             rfl
            refine hK.out _ _ trivial (fun hHeld => ?_)
            clear hK K
            refine done_ (done_of HT_.out (by kernel_rfl)) ?_
            obtain ⟨hnb27, hnc27⟩ := nB NB341_337
            obtain ⟨hcz28_0, hcz28_1, hcz28_2, hcz28_3, hfz28_0, hfz28_1, hfz28_2, hfz28_3⟩ := bK4 (w := w22) BK341
            try go_wp2_with (first | ((with_reducible refine gate_callee (f := 47) rfl ?_); refine goesL_ (some 42) rfl rfl Tryd.func47 (by kernel_rfl) rfl #[.agg #[.int .i64 t338, .string (a0.extract (t339 : Int).toNat ((ji12) : Int).toNat), .string (a0.extract ((ji12) : Int).toNat ((ji16) : Int).toNat), .string (a0.extract ((ji16) : Int).toNat a0.size)]] rfl (by (try simp only [List.map_toArray, List.map_cons, List.map_nil]); first | done | (simp only [hji12, hji16]; rfl) | rfl | (simp only [List.length_drop, List.length_take]; rfl)) ?_; (with_reducible refine (spec_HeadOk.calls t338 (a0.extract (t339 : Int).toNat ((ji12) : Int).toNat) (a0.extract ((ji12) : Int).toNat ((ji16) : Int).toNat) (a0.extract ((ji16) : Int).toNat a0.size) true _ A19.out).mono ?_); rintro e w29 ⟨rfl, hb⟩; refine ⟨_, rfl, ?_⟩; replace BK337 := Aside0.mk (blk_below (g := gb337) (o := .cells #[.int .i64 0, .string (⟨#[]⟩ : ByteArray), .string (⟨#[]⟩ : ByteArray), .string (⟨#[]⟩ : ByteArray)] 34 (0, 0)) (bP BK337) hb); replace BK341 := bV 34 #[.int .i64 t338, .string (a0.extract (t339 : Int).toNat ((ji12) : Int).toNat), .string (a0.extract ((ji12) : Int).toNat ((ji16) : Int).toNat), .string (a0.extract ((ji16) : Int).toNat a0.size)] BK341 hb; replace HB := bS HB hb; (try clear hb); obtain ⟨hcz30_0, hcz30_1, hcz30_2, hcz30_3, hfz30_0, hfz30_1, hfz30_2, hfz30_3⟩ := bK4 (w := w29) BK341; obtain ⟨hcz31_0, hcz31_1, hcz31_2, hcz31_3, hfz31_0, hfz31_1, hfz31_2, hfz31_3⟩ := bK4 (w := w29) BK337))
            refine bodyPost_ret (results_ct rfl _ _ gb337 34 #[.int .i64 t338, .string (a0.extract (t339 : Int).toNat ((ji12) : Int).toNat), .string (a0.extract ((ji12) : Int).toNat ((ji16) : Int).toNat), .string (a0.extract ((ji16) : Int).toNat a0.size)] (0, 0) _ rfl (bU BK337) Tryd.underlying34 rfl (by kernel_rfl)) rfl ?_
            exact ⟨by first | rfl | (simp [errW_none, errW_some] <;> rfl) | (simp only [← hji12, ← hji16]; first | rfl | (simp [errW_none, errW_some] <;> rfl)) | (simp [*, errW_none, errW_some] <;> rfl), bZ HB⟩
           ·replace c20 := Bool.eq_false_iff.mpr c20
            subst c20
            rw [if_neg (show ¬ (false = true) by decide)] at H
            simp only [Option.some.injEq, Prod.mk.injEq] at H
            obtain ⟨rfl, rfl, rfl, rfl, rfl⟩ := H
            try go_wp2
            replace BK337 := Aside0.mk (blk_drew BK337.out)
            replace HB := Aside0.mk (below_drew1 HB.out)
            refine start_ (n := 19) (S := fun w' => True) (ds := []) #[false, false, false, false, false, false, false, false, false, false, false, false, false, false, false, false, false, false, false] (by kernel_rfl) rfl rfl trivial (fun hHeld => ?_); refine with_tabW spec_ReadHead.tab4 spec_ReadHead.bits4 (fun HT_ HW_ => ?_)
            generalize wc.drew = w32 at BK337 HB hHeld ⊢
            refine pI 0 (some 24) HT_.out ?_
            refine pI 1 (some 25) HT_.out ?_
            refine pI 2 (some 26) HT_.out ?_
            refine pI 3 (some 27) HT_.out ?_
            refine pI 4 (some 28) HT_.out ?_
            refine pI 5 (some 29) HT_.out ?_
            refine pI 6 (some 30) HT_.out ?_
            refine pI 7 (some 31) HT_.out ?_
            refine pI 8 (some 32) HT_.out ?_
            refine pI 9 (some 33) HT_.out ?_
            refine pI 10 (some 34) HT_.out ?_
            refine pI 11 (some 35) HT_.out ?_
            refine pI 12 (some 36) HT_.out ?_
            refine pI 13 (some 37) HT_.out ?_
            refine pI 14 (some 38) HT_.out ?_
            refine pI 15 (some 39) HT_.out ?_
            refine pI 16 (some 40) HT_.out ?_
            refine oI 17 (some 7) HT_.out (fun K hK => ?_)
            refine box_step ?hg (N := 7) ?hd (cs := #[.int .i64 0, .string (⟨#[]⟩ : ByteArray), .string (⟨#[]⟩ : ByteArray), .string (⟨#[]⟩ : ByteArray)]) (t := 34) ?hr ?_; (case hd => rfl); (case hg => rfl); (case hr => first | (go_simp; done) | (go_simp; rfl))
            intro gb341 hg w33 hbox hb
            have BK341 := Aside0.mk (hbox)
            have GW341 := bG HB hg
            have GE341 := bG HB hg
            replace HB := bS HB hb
            have NB337_341 := Aside0.mk ((by rw [hg]; exact Nat.ne_of_lt (blk_lt (g := gb337) (o := .cells #[.int .i64 0, .string (⟨#[]⟩ : ByteArray), .string (⟨#[]⟩ : ByteArray), .string (⟨#[]⟩ : ByteArray)] 34 (0, 0)) (bP BK337)) : gb337 ≠ gb341))
            have NB341_337 := Aside0.mk ((by rw [hg]; exact Nat.ne_of_gt (blk_lt (g := gb337) (o := .cells #[.int .i64 0, .string (⟨#[]⟩ : ByteArray), .string (⟨#[]⟩ : ByteArray), .string (⟨#[]⟩ : ByteArray)] 34 (0, 0)) (bP BK337)) : gb341 ≠ gb337))
            replace BK337 := Aside0.mk (blk_below (g := gb337) (o := .cells #[.int .i64 0, .string (⟨#[]⟩ : ByteArray), .string (⟨#[]⟩ : ByteArray), .string (⟨#[]⟩ : ByteArray)] 34 (0, 0)) (bP BK337) hb)
            clear hb hbox hg
            refine hK.out _ _ trivial (fun hHeld => ?_)
            clear hK K
            refine nO (some 7) ?_
            refine oI 18 (none) HT_.out (fun K hK => ?_)
            have hs34 : w33.cell? ⟨gb341, 0, none⟩ = some (.int .i64 0) := bc BK341 0
            have hfs34 := blk_frozen BK341.out 0
            obtain ⟨hns34_0, hms34_0⟩ := nB NB337_341
            have hs35 : w33.cell? ⟨gb341, 1, none⟩ = some (.string (⟨#[]⟩ : ByteArray)) := bc BK341 1
            have hfs35 := blk_frozen BK341.out 1
            obtain ⟨hns35_0, hms35_0⟩ := nB NB337_341
            have hs36 : w33.cell? ⟨gb341, 2, none⟩ = some (.string (⟨#[]⟩ : ByteArray)) := bc BK341 2
            have hfs36 := blk_frozen BK341.out 2
            obtain ⟨hns36_0, hms36_0⟩ := nB NB337_341
            have hs37 : w33.cell? ⟨gb341, 3, none⟩ = some (.string (⟨#[]⟩ : ByteArray)) := bc BK341 3
            have hfs37 := blk_frozen BK341.out 3
            obtain ⟨hns37_0, hms37_0⟩ := nB NB337_341
            refine skip_ (w1 := ?_) (by rfl) rfl ?_ ?_
            rotate_left
            ·go_simp
             rfl
            refine hK.out _ _ trivial (fun hHeld => ?_)
            clear hK K
            refine done_ (done_of HT_.out (by kernel_rfl)) ?_
            obtain ⟨hnb38, hnc38⟩ := nB NB341_337
            obtain ⟨hcz39_0, hcz39_1, hcz39_2, hcz39_3, hfz39_0, hfz39_1, hfz39_2, hfz39_3⟩ := bK4 (w := w33) BK341
            try go_wp2_with (first | ((with_reducible refine gate_callee (f := 47) rfl ?_); refine goesL_ (some 42) rfl rfl Tryd.func47 (by kernel_rfl) rfl #[.agg #[.int .i64 t338, .string (a0.extract (t339 : Int).toNat ((ji12) : Int).toNat), .string (a0.extract ((ji12) : Int).toNat ((ji16) : Int).toNat), .string (a0.extract ((ji16) : Int).toNat a0.size)]] rfl (by (try simp only [List.map_toArray, List.map_cons, List.map_nil]); first | done | (simp only [hji12, hji16]; rfl) | rfl | (simp only [List.length_drop, List.length_take]; rfl)) ?_; (with_reducible refine (spec_HeadOk.calls t338 (a0.extract (t339 : Int).toNat ((ji12) : Int).toNat) (a0.extract ((ji12) : Int).toNat ((ji16) : Int).toNat) (a0.extract ((ji16) : Int).toNat a0.size) false _ A19.out).mono ?_); rintro e w40 ⟨rfl, hb⟩; refine ⟨_, rfl, ?_⟩; replace BK337 := Aside0.mk (blk_below (g := gb337) (o := .cells #[.int .i64 0, .string (⟨#[]⟩ : ByteArray), .string (⟨#[]⟩ : ByteArray), .string (⟨#[]⟩ : ByteArray)] 34 (0, 0)) (bP BK337) hb); replace BK341 := bV 34 #[.int .i64 t338, .string (a0.extract (t339 : Int).toNat ((ji12) : Int).toNat), .string (a0.extract ((ji12) : Int).toNat ((ji16) : Int).toNat), .string (a0.extract ((ji16) : Int).toNat a0.size)] BK341 hb; replace HB := bS HB hb; (try clear hb); obtain ⟨hcz41_0, hcz41_1, hcz41_2, hcz41_3, hfz41_0, hfz41_1, hfz41_2, hfz41_3⟩ := bK4 (w := w40) BK337))
            refine bodyPost_ret (results_ct rfl _ _ gb337 34 #[.int .i64 0, .string (⟨#[]⟩ : ByteArray), .string (⟨#[]⟩ : ByteArray), .string (⟨#[]⟩ : ByteArray)] (0, 0) _ rfl (bU BK337) Tryd.underlying34 rfl (by kernel_rfl)) rfl ?_
            exact ⟨by first | rfl | (simp [errW_none, errW_some] <;> rfl) | (simp only [← hji12, ← hji16]; first | rfl | (simp [errW_none, errW_some] <;> rfl)) | (simp [*, errW_none, errW_some] <;> rfl), bZ HB⟩
          ·rw [if_neg c17] at H
           exact absurd H (by simp)
         ·rw [if_neg c15] at H
          exact absurd H (by simp)
        ·rw [if_neg c14] at H
         exact absurd H (by simp)
       ·rw [if_neg c13] at H
        exact absurd H (by simp)
      ·rw [if_neg c11] at H
       exact absurd H (by simp)
     ·rw [if_neg c10] at H
      exact absurd H (by simp)
    ·rw [if_neg c9] at H
     exact absurd H (by simp)
/-! ### spec_DrawHead: function 45 -/
def spec_DrawHead.f (k : Nat) (l0 : List Int) : Option (Int × ByteArray × ByteArray × ByteArray) := (spec_l01New.f k l0).bind fun bt344 => ((spec_l11Head.f k bt344.1 bt344.2.1 bt344.2.2).bind fun bt348 => (some (bt348.1, bt348.2.1, bt348.2.2.1, bt348.2.2.2.1)))
theorem spec_DrawHead.mono : ∀ a0 k, LeO (spec_DrawHead.f k a0) (spec_DrawHead.f (k + 1) a0) := by
 intro a0 k
 unfold spec_DrawHead.f
 repeat' first
   | (with_reducible exact spec_l01New.mono _ _)
   | (with_reducible exact spec_l11Head.mono _ _ _ _)
   | (with_reducible exact LeO.refl _)
   | (with_reducible exact LeO.none _)
   | (with_reducible refine LeO.ite ?_ ?_)
   | (with_reducible refine LeO.bind ?_ (fun _ => ?_))
   | exact spec_l01New.mono _ _
   | exact spec_l11Head.mono _ _ _ _
   | exact LeO.none _
   | refine LeO.ite ?_ ?_
   | refine LeO.bind ?_ (fun _ => ?_)
set_option maxHeartbeats 8000000 in
set_option maxRecDepth 100000 in
theorem spec_DrawHead.calls (k : Nat) (A0 : Option Addr) (c0 : Nat) (l0 : List Int) (r1 : Int) (r2 : ByteArray) (r3 : ByteArray) (r4 : ByteArray) (w : World) (hr0 : Kd.C (Kd.int .u8) w A0 l0.length l0) (hc0 : l0.length ≤ c0) (h : spec_DrawHead.f k l0 = some (r1, r2, r3, r4)) :
  Calls Tryd.prog 45 #[.slice A0 l0.length c0] w fun e w' => e = .returned (.agg #[.int .i64 r1, .string r2, .string r3, .string r4]) ∧ Below w.heap.size w w' := by
 have hu34 := Tryd.underlying34
 have HR0 := Aside0.mk hr0
 have HC0 := Aside0.mk hc0
 clear hr0 hc0
 have HB := Aside0.mk (Below.refl w.heap.size w)
 have H : ((spec_l01New.f k l0).bind fun bt344 => ((spec_l11Head.f k bt344.1 bt344.2.1 bt344.2.2).bind fun bt348 => (some (bt348.1, bt348.2.1, bt348.2.2.1, bt348.2.2.2.1)))) = some (r1, r2, r3, r4) := h
 clear h
 replace H := Option.bind_eq_some_iff.mp H
 obtain ⟨⟨t344, t345, t346⟩, A20, H⟩ := H
 have A2 := Aside0.mk A20
 clear A20
 replace H := Option.bind_eq_some_iff.mp H
 obtain ⟨⟨t348, t349, t350, t351, t352, t353⟩, A30, H⟩ := H
 have A3 := Aside0.mk A30
 clear A30
 simp only [Option.some.injEq, Prod.mk.injEq] at H
 obtain ⟨rfl, rfl, rfl, rfl⟩ := H
 go_enter Tryd.func45, Tryd.ntmps45
 go_wp2_with (first | ((with_reducible refine gate_dst (N := 2) rfl ?_); refine bE 2 #[.int .i64 0, .string (⟨#[]⟩ : ByteArray), .string (⟨#[]⟩ : ByteArray), .string (⟨#[]⟩ : ByteArray)] 34 ?_; intro gb343 hg w4 hbox hb; have BK343 := Aside0.mk (hbox); have GW343 := bG HB hg; have GE343 := bG HB hg; replace HB := bS HB hb; clear hb hbox hg) | ((with_reducible refine gate_callee (f := 59) rfl ?_); refine gL (some 4) Tryd.func59 #[.slice A0 l0.length c0] ?_; (with_reducible refine (spec_l01New.calls k _ _ l0 t344 t345 t346 w _ ?side1 ?side2 ?side3 A2.out).mono ?_); (case side1 => repeat (first | (with_reducible first | exact HB.out | apply below_alloc | apply pw_below_drewN | apply below_drew1 | refine below_set ?_ GE343.out) | exact HB.out)); (case side2 => exact HR0.out); (case side3 => exact HC0.out); rintro e w5 ⟨g347, rfl, hi, hb, hb2⟩; refine ⟨_, rfl, ?_⟩; replace HB := Aside0.mk (hb); have HI347 := Aside0.mk (hi); have NB347_343 := Aside0.mk (IsS93.ne_blk hi (blk_below (g := gb343) (o := .cells #[.int .i64 0, .string (⟨#[]⟩ : ByteArray), .string (⟨#[]⟩ : ByteArray), .string (⟨#[]⟩ : ByteArray)] 34 (0, 0)) (bP BK343) hb2) (by decide)); have NB343_347 := Aside0.mk (Ne.symm (IsS93.ne_blk hi (blk_below (g := gb343) (o := .cells #[.int .i64 0, .string (⟨#[]⟩ : ByteArray), .string (⟨#[]⟩ : ByteArray), .string (⟨#[]⟩ : ByteArray)] 34 (0, 0)) (bP BK343) hb2) (by decide))); replace BK343 := Aside0.mk (blk_below (g := gb343) (o := .cells #[.int .i64 0, .string (⟨#[]⟩ : ByteArray), .string (⟨#[]⟩ : ByteArray), .string (⟨#[]⟩ : ByteArray)] 34 (0, 0)) (bP BK343) hb2); (try clear hb)) | ((with_reducible refine gate_callee (f := 75) rfl ?_); refine gL (some 5) Tryd.func75 #[.pointer (some ⟨g347, 0, none⟩)] ?_; (with_reducible refine (spec_l11Head.calls k g347 t344 t345 t346 t348 t349 t350 t351 t352 t353 w _ ?side1 ?side2 A3.out).mono ?_); (case side1 => repeat (first | (with_reducible first | exact HI347.out | apply IsS93.alloc | apply IsS93.drewN | apply IsS93.drew | apply IsS93.set_1 | apply IsS93.set_2 | refine IsS93.far ?_ NB347_343.out _) | exact HI347.out)); (case side2 => repeat (first | (with_reducible first | exact HB.out | apply below_alloc | apply pw_below_drewN | apply below_drew1 | refine below_set ?_ (IsS93.ge HI347.out) | refine below_set ?_ GE343.out) | exact HB.out)); rintro e w6 ⟨rfl, hi, hb, hk⟩; refine ⟨_, rfl, ?_⟩; replace BK343 := Aside0.mk (KeepBut.blk hk (g' := gb343) (o := .cells #[.int .i64 0, .string (⟨#[]⟩ : ByteArray), .string (⟨#[]⟩ : ByteArray), .string (⟨#[]⟩ : ByteArray)] 34 (0, 0)) (bP BK343) NB343_347.out (by simp)); replace HB := Aside0.mk (hb); replace HI347 := Aside0.mk (hi); (try clear hb); obtain ⟨hnb7, hnc7⟩ := nB NB343_347; obtain ⟨hcz8_0, hcz8_1, hcz8_2, hcz8_3, hfz8_0, hfz8_1, hfz8_2, hfz8_3⟩ := bK4 (w := w6) BK343))
 refine rC gb343 34 #[.int .i64 t348, .string t349, .string t350, .string t351] (bU BK343) Tryd.underlying34 ?_
 exact ⟨by first | rfl | (simp [errW_none, errW_some] <;> rfl) | (simp [*, errW_none, errW_some] <;> rfl), by repeat (first | (with_reducible first | exact HB.out | apply below_alloc | apply pw_below_drewN | apply below_drew1 | refine below_set ?_ (IsS93.ge HI347.out) | refine below_set ?_ GE343.out) | exact HB.out)⟩
/-! ### spec_l01PickInt: function 76 -/
def spec_l01PickInt.f (s0_0 : List Int) (s0_1 : Int) (s0_2 : Int) (l1 : List Int) : Option (Int × Int × Int) := (spec_l01Below.f s0_0 s0_1 s0_2 (l1.length : Int)).bind fun bt354 => (if 0 ≤ bt354.1 then (if bt354.1 < (l1.length : Int) then (some (rd l1 bt354.1, bt354.2.1, bt354.2.2)) else (none)) else (none))
set_option maxHeartbeats 8000000 in
set_option maxRecDepth 100000 in
theorem spec_l01PickInt.calls (g : Nat) (s0_0 : List Int) (s0_1 : Int) (s0_2 : Int) (A1 : Option Addr) (c1 : Nat) (l1 : List Int) (r1 : Int) (r2 : Int) (r3 : Int) (w0 w : World) (hI : IsS93 w0 w g s0_0 s0_1 s0_2) (hB : Below w0.heap.size w0 w) (hr1 : Kd.C (Kd.int .i64) w A1 l1.length l1) (hc1 : l1.length ≤ c1) (hf1 : ∀ ad, A1 = some ad → 0 < l1.length → ad.block ≠ g) (h : spec_l01PickInt.f s0_0 s0_1 s0_2 l1 = some (r1, r2, r3)) :
  Calls Tryd.prog 76 #[.pointer (some ⟨g, 0, none⟩), .slice A1 l1.length c1] w fun e w' => e = .returned (.int .i64 r1) ∧ IsS93 w0 w' g s0_0 r2 r3 ∧ Below w0.heap.size w0 w' ∧ KeepBut w w' g none := by
 have HR1 := Aside0.mk hr1
 have HC1 := Aside0.mk hc1
 clear hr1 hc1
 have HI0 := Aside0.mk hI
 have HK := Aside0.mk (KeepBut.refl w g none)
 have HL := Aside0.mk hB.size
 clear hI
 have HW0 := Aside0.mk hB.size
 have HB := Aside0.mk hB
 clear hB
 have H : ((spec_l01Below.f s0_0 s0_1 s0_2 (l1.length : Int)).bind fun bt354 => (if 0 ≤ bt354.1 then (if bt354.1 < (l1.length : Int) then (some (rd l1 bt354.1, bt354.2.1, bt354.2.2)) else (none)) else (none))) = some (r1, r2, r3) := h
 clear h
 replace H := Option.bind_eq_some_iff.mp H
 obtain ⟨⟨t354, t355, t356⟩, A30, H⟩ := H
 have A3 := Aside0.mk A30
 clear A30
 by_cases c4 : 0 ≤ t354
 ·rw [if_pos c4] at H
  have c4b0 : decide (0 ≤ t354) = true := decide_eq_true c4
  clear c4
  by_cases c5 : t354 < (l1.length : Int)
  ·rw [if_pos c5] at H
   have c5b0 : decide (t354 < (l1.length : Int)) = true := decide_eq_true c5
   clear c5
   simp only [Option.some.injEq, Prod.mk.injEq] at H
   obtain ⟨rfl, rfl, rfl⟩ := H
   go_enter Tryd.func76, Tryd.ntmps76
   go_wp2_with (first | ((with_reducible refine gate_callee (f := 60) rfl ?_); refine gL (some 9) Tryd.func60 #[.pointer (some ⟨g, 0, none⟩), .int .i64 (l1.length : Int)] ?_; (with_reducible refine (spec_l01Below.calls g s0_0 s0_1 s0_2 (l1.length : Int) t354 t355 t356 w0 _ ?side1 ?side2 A3.out).mono ?_); (case side1 => repeat (first | (with_reducible first | exact HI0.out | apply IsS93.alloc | apply IsS93.drewN | apply IsS93.drew | apply IsS93.set_1 | apply IsS93.set_2) | exact HI0.out)); (case side2 => repeat (first | (with_reducible first | exact HB.out | apply below_alloc | apply pw_below_drewN | apply below_drew1 | refine below_set ?_ (IsS93.ge HI0.out)) | exact HB.out)); rintro e w6 ⟨rfl, hi, hb, hk⟩; refine ⟨_, rfl, ?_⟩; replace HK := Aside0.mk (KeepBut.trans (by repeat (first | (with_reducible first | exact HK.out | apply KeepBut.set_ | apply keep_drewN | apply keep_drew | apply keep_alloc) | exact HK.out)) hk (.inl rfl)); replace HB := Aside0.mk (hb); replace HI0 := Aside0.mk (hi); (try clear hb); have p357 : 0 ≤ (t354 : Int) := of_decide_eq_true (by first | (with_reducible assumption) | assumption); have q357 : t354 < (l1.length : Int) := of_decide_eq_true (by first | (with_reducible assumption) | assumption); obtain ⟨ad357, e357, hx357_0⟩ := Kd.at_int HR1.out t354 p357 q357; cases e357; replace hx357_0 := keep_cell HK.out hx357_0 (by first | (rw [add_block]; exact hf1 _ rfl (by omega)) | exact hf1 _ rfl (by omega) | exact hf1 ad357 rfl (by omega)); replace p357 := eq_true p357; replace q357 := eq_true q357))
   go_ret
   exact ⟨by first | rfl | (simp [errW_none, errW_some] <;> rfl) | (simp [*, errW_none, errW_some] <;> rfl), by repeat (first | (with_reducible first | exact HI0.out | apply IsS93.alloc | apply IsS93.drewN | apply IsS93.drew | apply IsS93.set_1 | apply IsS93.set_2) | exact HI0.out), by repeat (first | (with_reducible first | exact HB.out | apply below_alloc | apply pw_below_drewN | apply below_drew1 | refine below_set ?_ (IsS93.ge HI0.out)) | exact HB.out), by repeat (first | (with_reducible first | exact HK.out | apply KeepBut.set_ | apply keep_drewN | apply keep_drew | apply keep_alloc) | exact HK.out)⟩
  ·rw [if_neg c5] at H
   exact absurd H (by simp)
 ·rw [if_neg c4] at H
  exact absurd H (by simp)
/-! ### spec_DrawSigText: function 46 -/
def spec_DrawSigText.f (k : Nat) (l0 : List Int) : Option (Int × ByteArray × ByteArray × ByteArray × Int) := (spec_l01New.f k l0).bind fun bt359 => ((spec_l01PickInt.f bt359.1 bt359.2.1 bt359.2.2 (([0, 7, 255, 256, (-1)] : List Int))).bind fun bt366 => ((spec_l11Any.f k bt359.1 bt366.2.1 bt366.2.2).bind fun bt369 => (some (bt369.1, bt369.2.1, bt369.2.2.1, bt369.2.2.2.1, bt366.1))))
theorem spec_DrawSigText.mono : ∀ a0 k, LeO (spec_DrawSigText.f k a0) (spec_DrawSigText.f (k + 1) a0) := by
 intro a0 k
 unfold spec_DrawSigText.f
 repeat' first
   | (with_reducible exact spec_l01New.mono _ _)
   | (with_reducible exact spec_l11Any.mono _ _ _ _)
   | (with_reducible exact LeO.refl _)
   | (with_reducible exact LeO.none _)
   | (with_reducible refine LeO.ite ?_ ?_)
   | (with_reducible refine LeO.bind ?_ (fun _ => ?_))
   | exact spec_l01New.mono _ _
   | exact spec_l11Any.mono _ _ _ _
   | exact LeO.none _
   | refine LeO.ite ?_ ?_
   | refine LeO.bind ?_ (fun _ => ?_)
set_option maxHeartbeats 8000000 in
set_option maxRecDepth 100000 in
theorem spec_DrawSigText.calls (k : Nat) (A0 : Option Addr) (c0 : Nat) (l0 : List Int) (r1 : Int) (r2 : ByteArray) (r3 : ByteArray) (r4 : ByteArray) (r5 : Int) (w : World) (hr0 : Kd.C (Kd.int .u8) w A0 l0.length l0) (hc0 : l0.length ≤ c0) (h : spec_DrawSigText.f k l0 = some (r1, r2, r3, r4, r5)) :
  Calls Tryd.prog 46 #[.slice A0 l0.length c0] w fun e w' => e = .returned (.tuple #[.agg #[.int .i64 r1, .string r2, .string r3, .string r4], .int .i64 r5]) ∧ Below w.heap.size w w' := by
 have hu34 := Tryd.underlying34
 have HR0 := Aside0.mk hr0
 have HC0 := Aside0.mk hc0
 clear hr0 hc0
 have HB := Aside0.mk (Below.refl w.heap.size w)
 have H : ((spec_l01New.f k l0).bind fun bt359 => ((spec_l01PickInt.f bt359.1 bt359.2.1 bt359.2.2 (([0, 7, 255, 256, (-1)] : List Int))).bind fun bt366 => ((spec_l11Any.f k bt359.1 bt366.2.1 bt366.2.2).bind fun bt369 => (some (bt369.1, bt369.2.1, bt369.2.2.1, bt369.2.2.2.1, bt366.1))))) = some (r1, r2, r3, r4, r5) := h
 clear h
 replace H := Option.bind_eq_some_iff.mp H
 obtain ⟨⟨t359, t360, t361⟩, A20, H⟩ := H
 have A2 := Aside0.mk A20
 clear A20
 obtain ⟨y363, hy363⟩ : ∃ y_ : List Int, y_ = (([0, 7, 255, 256, (-1)] : List Int)) := ⟨_, rfl⟩
 replace H : ((spec_l01PickInt.f t359 t360 t361 y363).bind fun bt366 => ((spec_l11Any.f k t359 bt366.2.1 bt366.2.2).bind fun bt369 => (some (bt369.1, bt369.2.1, bt369.2.2.1, bt369.2.2.2.1, bt366.1)))) = some (r1, r2, r3, r4, r5) := by first | (rw [hy363]; with_reducible exact H) | (have H2_ := (Option.bind_some _ _).symm.trans H; rw [hy363]; with_reducible exact H2_) | (have H2_ := (Option.bind_some _ _).symm.trans H; with_reducible exact H2_) | with_reducible exact H | (rw [hy363]; exact H) | exact H
 have Ny363 := Aside0.mk hy363
 clear hy363
 replace H := Option.bind_eq_some_iff.mp H
 obtain ⟨⟨t366, t367, t368⟩, A30, H⟩ := H
 have A3 := Aside0.mk A30
 clear A30
 replace H := Option.bind_eq_some_iff.mp H
 obtain ⟨⟨t369, t370, t371, t372, t373, t374⟩, A40, H⟩ := H
 have A4 := Aside0.mk A40
 clear A40
 simp only [Option.some.injEq, Prod.mk.injEq] at H
 obtain ⟨rfl, rfl, rfl, rfl, rfl⟩ := H
 go_enter Tryd.func46, Tryd.ntmps46
 go_wp2_with (first | ((with_reducible refine gate_dst (N := 2) rfl ?_); refine bE 2 #[.int .i64 0, .string (⟨#[]⟩ : ByteArray), .string (⟨#[]⟩ : ByteArray), .string (⟨#[]⟩ : ByteArray)] 34 ?_; intro gb358 hg w5 hbox hb; have BK358 := Aside0.mk (hbox); have GW358 := bG HB hg; have GE358 := bG HB hg; replace HB := bS HB hb; clear hb hbox hg) | ((with_reducible refine gate_callee (f := 59) rfl ?_); refine gL (some 7) Tryd.func59 #[.slice A0 l0.length c0] ?_; (with_reducible refine (spec_l01New.calls k _ _ l0 t359 t360 t361 w _ ?side1 ?side2 ?side3 A2.out).mono ?_); (case side1 => repeat (first | (with_reducible first | exact HB.out | apply below_alloc | apply pw_below_drewN | apply below_drew1 | refine below_set ?_ GE358.out) | exact HB.out)); (case side2 => exact HR0.out); (case side3 => exact HC0.out); rintro e w6 ⟨g362, rfl, hi, hb, hb2⟩; refine ⟨_, rfl, ?_⟩; replace HB := Aside0.mk (hb); have HI362 := Aside0.mk (hi); have NB362_358 := Aside0.mk (IsS93.ne_blk hi (blk_below (g := gb358) (o := .cells #[.int .i64 0, .string (⟨#[]⟩ : ByteArray), .string (⟨#[]⟩ : ByteArray), .string (⟨#[]⟩ : ByteArray)] 34 (0, 0)) (bP BK358) hb2) (by decide)); have NB358_362 := Aside0.mk (Ne.symm (IsS93.ne_blk hi (blk_below (g := gb358) (o := .cells #[.int .i64 0, .string (⟨#[]⟩ : ByteArray), .string (⟨#[]⟩ : ByteArray), .string (⟨#[]⟩ : ByteArray)] 34 (0, 0)) (bP BK358) hb2) (by decide))); replace BK358 := Aside0.mk (blk_below (g := gb358) (o := .cells #[.int .i64 0, .string (⟨#[]⟩ : ByteArray), .string (⟨#[]⟩ : ByteArray), .string (⟨#[]⟩ : ByteArray)] 34 (0, 0)) (bP BK358) hb2); (try clear hb)) | ((with_reducible refine gate_dst (N := 9) rfl ?_); refine Kd.R_lit (Kd.int .i64) _ 3 ?hg (N := 9) ?hd (xs := ([0, 7, 255, 256, (-1)] : List Int)) (inner := [.int .i64 0, .int .i64 7, .int .i64 255, .int .i64 256, .int .i64 (-1)]) (ok := fun _ => True) (okp := fun _ => True) ?hr ?hp (fun _ hk => hk) trivial (Below.refl _ _) (Nat.le_refl _) (by simp) ?_; (case hd => rfl); (case hg => rfl); (case hr => first | (go_simp; done) | (go_simp; rfl)); (case hp => exact (Reps.one (show Kd.M (Kd.int .i64) _ _ _ 0 [.int .i64 0] from rfl) (Reps.one (show Kd.M (Kd.int .i64) _ _ _ 7 [.int .i64 7] from rfl) (Reps.one (show Kd.M (Kd.int .i64) _ _ _ 255 [.int .i64 255] from rfl) (Reps.one (show Kd.M (Kd.int .i64) _ _ _ 256 [.int .i64 256] from rfl) (Reps.one (show Kd.M (Kd.int .i64) _ _ _ (-1) [.int .i64 (-1)] from rfl) (Reps.none _ _))))))); intro v364 w7 ho8 hb hg_ hnew_; clear hg_ hnew_; (first | rw [← Ny363.out] at ho8 | (simp only [Int.reduceToNat] at ho8; rw [← Ny363.out] at ho8)); have HO365 := Aside0.mk (Kd.R_lower ho8 (below_size (by repeat (first | (with_reducible first | exact HB.out | apply below_alloc | apply pw_below_drewN | apply below_drew1 | refine below_set ?_ (IsS93.ge HI362.out) | refine below_set ?_ GE358.out) | exact HB.out)))); replace BK358 := Aside0.mk (blk_below (g := gb358) (o := .cells #[.int .i64 0, .string (⟨#[]⟩ : ByteArray), .string (⟨#[]⟩ : ByteArray), .string (⟨#[]⟩ : ByteArray)] 34 (0, 0)) (bP BK358) hb); replace HB := Aside0.mk (below_step (by repeat (first | (with_reducible first | exact HB.out | apply below_alloc | apply pw_below_drewN | apply below_drew1 | refine below_set ?_ (IsS93.ge HI362.out) | refine below_set ?_ GE358.out) | exact HB.out)) hb); replace HI362 := Aside0.mk (IsS93.below (by repeat (first | (with_reducible first | exact HI362.out | apply IsS93.alloc | apply IsS93.drewN | apply IsS93.drew | apply IsS93.set_1 | apply IsS93.set_2 | refine IsS93.far ?_ NB362_358.out _) | exact HI362.out)) hb); clear hb ho8; obtain ⟨Ao9, co9, eo9⟩ := Kd.R_slice HO365.out; subst eo9) | ((with_reducible refine gate_callee (f := 76) rfl ?_); refine gL (some 10) Tryd.func76 #[.pointer (some ⟨g362, 0, none⟩), .slice Ao9 y363.length co9] ?_; (with_reducible refine (spec_l01PickInt.calls g362 t359 t360 t361 _ _ y363 t366 t367 t368 w _ ?side1 ?side2 ?side3 ?side4 ?side5 A3.out).mono ?_); (case side1 => repeat (first | (with_reducible first | exact HI362.out | apply IsS93.alloc | apply IsS93.drewN | apply IsS93.drew | apply IsS93.set_1 | apply IsS93.set_2 | refine IsS93.far ?_ NB362_358.out _) | exact HI362.out)); (case side2 => repeat (first | (with_reducible first | exact HB.out | apply below_alloc | apply pw_below_drewN | apply below_drew1 | refine below_set ?_ (IsS93.ge HI362.out) | refine below_set ?_ GE358.out) | exact HB.out)); (case side3 => exact cP ((Kd.R_reads' HO365.out).2.2)); (case side4 => exact (Kd.R_reads' HO365.out).2.1); (case side5 => exact far_slice (IsS93.own_ne HI362.out HO365.out (by decide))); rintro e w10 ⟨rfl, hi, hb, hk⟩; refine ⟨_, rfl, ?_⟩; replace BK358 := Aside0.mk (KeepBut.blk hk (g' := gb358) (o := .cells #[.int .i64 0, .string (⟨#[]⟩ : ByteArray), .string (⟨#[]⟩ : ByteArray), .string (⟨#[]⟩ : ByteArray)] 34 (0, 0)) (bP BK358) NB358_362.out (by simp)); replace HO365 := Aside0.mk (Kd.R_mono (Kd.R_keep (IsS93.apart (show IsS93 w _ g362 t359 t360 t361 from by repeat (first | (with_reducible first | exact HI362.out | apply IsS93.alloc | apply IsS93.drewN | apply IsS93.drew | apply IsS93.set_1 | apply IsS93.set_2 | refine IsS93.far ?_ NB362_358.out _) | exact HI362.out)) (rP HO365) (by decide)) hk (fun _ h => h.2)) (fun _ h => h.1)); replace HB := Aside0.mk (hb); replace HI362 := Aside0.mk (hi); (try clear hb)) | ((with_reducible refine gate_callee (f := 69) rfl ?_); refine gL (some 12) Tryd.func69 #[.pointer (some ⟨g362, 0, none⟩)] ?_; (with_reducible refine (spec_l11Any.calls k g362 t359 t367 t368 t369 t370 t371 t372 t373 t374 w _ ?side1 ?side2 A4.out).mono ?_); (case side1 => repeat (first | (with_reducible first | exact HI362.out | apply IsS93.alloc | apply IsS93.drewN | apply IsS93.drew | apply IsS93.set_1 | apply IsS93.set_2 | refine IsS93.far ?_ NB362_358.out _) | exact HI362.out)); (case side2 => repeat (first | (with_reducible first | exact HB.out | apply below_alloc | apply pw_below_drewN | apply below_drew1 | refine below_set ?_ (IsS93.ge HI362.out) | refine below_set ?_ GE358.out) | exact HB.out)); rintro e w11 ⟨rfl, hi, hb, hk⟩; refine ⟨_, rfl, ?_⟩; replace BK358 := Aside0.mk (KeepBut.blk hk (g' := gb358) (o := .cells #[.int .i64 0, .string (⟨#[]⟩ : ByteArray), .string (⟨#[]⟩ : ByteArray), .string (⟨#[]⟩ : ByteArray)] 34 (0, 0)) (bP BK358) NB358_362.out (by simp)); replace HO365 := Aside0.mk (Kd.R_mono (Kd.R_keep (IsS93.apart (show IsS93 w _ g362 t359 t367 t368 from by repeat (first | (with_reducible first | exact HI362.out | apply IsS93.alloc | apply IsS93.drewN | apply IsS93.drew | apply IsS93.set_1 | apply IsS93.set_2 | refine IsS93.far ?_ NB362_358.out _) | exact HI362.out)) (rP HO365) (by decide)) hk (fun _ h => h.2)) (fun _ h => h.1)); replace HB := Aside0.mk (hb); replace HI362 := Aside0.mk (hi); (try clear hb); obtain ⟨hnb12, hnc12⟩ := nB NB358_362; obtain ⟨hcz13_0, hcz13_1, hcz13_2, hcz13_3, hfz13_0, hfz13_1, hfz13_2, hfz13_3⟩ := bK4 (w := w11) BK358))
 refine bodyPost_ret (results_ct rfl _ _ gb358 34 #[.int .i64 t369, .string t370, .string t371, .string t372] (0, 0) _ rfl (bU BK358) Tryd.underlying34 rfl (by kernel_rfl)) rfl ?_
 exact ⟨by first | rfl | (simp [errW_none, errW_some] <;> rfl) | (simp [*, errW_none, errW_some] <;> rfl), by repeat (first | (with_reducible first | exact HB.out | apply below_alloc | apply pw_below_drewN | apply below_drew1 | refine below_set ?_ (IsS93.ge HI362.out) | refine below_set ?_ GE358.out) | exact HB.out)⟩
end Go.Proofs.YtmiiknkfhiecgaaDoor.Pf
end
section
namespace Go.Proofs.YtmiiknkfhiecgaaDoor.Pf
open Go.RowKit Go.Proofs.YtmiiknkfhiecgaaDoorW.PrintWords Go.Proofs.YtmiiknkfhiecgaaDoorW.PrintLast Go.Proofs.YtmiiknkfhiecgaaDoorW.PrintMore
attribute [local go_sem] max2_int min2_int max_two min_two max_three min_three max_four min_four   -- for this text's walks alone
set_option linter.unusedVariables false
set_option linter.unusedSimpArgs false
attribute [local go_sem high] eqA34
/-! ### laws_FnHeads: function 10 -/
def laws_FnHeads.f (k : Nat) (l0 : List Int) : Option (Bool) := (laws_big.f l0).bind fun t375 => (if t375 = true then (some true) else ((spec_DrawHeadText.f k l0).bind fun bt376 => ((impl_HeadText.f k bt376.1 bt376.2.1 bt376.2.2.1 bt376.2.2.2).bind fun bt381 => ((impl_ReadHead.f k bt381.1).bind fun bt383 => ((spec_DrawReadHead.f k l0).bind fun t389 => ((impl_ReadHead.f k t389).bind fun bt390 => ((spec_ReadHead.f k t389).bind fun bt396 => ((impl_HeadText.f k bt390.1 bt390.2.1 bt390.2.2.1 bt390.2.2.2.1).bind fun bt402 => ((spec_DrawHead.f k l0).bind fun bt404 => ((impl_HeadRoot.f k bt404.1 bt404.2.1 bt404.2.2.1 bt404.2.2.2).bind fun t409 => ((spec_BranchOf.f k (([(⟨#[]⟩ : ByteArray), bt404.2.1, bt404.2.2.1, bt404.2.2.2] : List ByteArray)) 2).bind fun t413 => ((spec_DrawSigText.f k l0).bind fun bt416 => ((spec_HeadOk.f bt376.1 bt376.2.1 bt376.2.2.1 bt376.2.2.2).bind fun t422 => (if (bt381.2 == t422) = true then ((impl_HeadOk.f bt376.1 bt376.2.1 bt376.2.2.1 bt376.2.2.2).bind fun t423 => (if (t423 == bt381.2) = true then (if bt381.2 = true then (if bt383.2.2.2.2 = true then (if (bt383.1 == bt376.1 && (bt383.2.1.toList == bt376.2.1.toList && (bt383.2.2.1.toList == bt376.2.2.1.toList && (bt383.2.2.2.1.toList == bt376.2.2.2.toList)))) = true then (if (bt390.2.2.2.2 == bt396.2.2.2.2) = true then (if bt390.2.2.2.2 = true then (if bt402.1.toList = t389.toList then (if (t413.length : Int) = 2 then (if (t409.size : Int) = 32 then ((spec_HeadRoot.f k bt404.1 bt404.2.1 bt404.2.2.1 bt404.2.2.2).bind fun t424 => (if t409.toList = t424.toList then ((impl_SigText.f k bt416.1 bt416.2.1 bt416.2.2.1 bt416.2.2.2.1 bt416.2.2.2.2).bind fun t425 => ((spec_SigText.f k bt416.1 bt416.2.1 bt416.2.2.1 bt416.2.2.2.1 bt416.2.2.2.2).bind fun t426 => (if t425.toList = t426.toList then ((impl_SigText.f k bt404.1 bt404.2.1 bt404.2.2.1 bt404.2.2.2 7).bind fun t427 => (some ((t427.size : Int) == 33))) else (some false)))) else (some false))) else (some false)) else (some false)) else (some false)) else (if (t413.length : Int) = 2 then (if (t409.size : Int) = 32 then ((spec_HeadRoot.f k bt404.1 bt404.2.1 bt404.2.2.1 bt404.2.2.2).bind fun t428 => (if t409.toList = t428.toList then ((impl_SigText.f k bt416.1 bt416.2.1 bt416.2.2.1 bt416.2.2.2.1 bt416.2.2.2.2).bind fun t429 => ((spec_SigText.f k bt416.1 bt416.2.1 bt416.2.2.1 bt416.2.2.2.1 bt416.2.2.2.2).bind fun t430 => (if t429.toList = t430.toList then ((impl_SigText.f k bt404.1 bt404.2.1 bt404.2.2.1 bt404.2.2.2 7).bind fun t431 => (some ((t431.size : Int) == 33))) else (some false)))) else (some false))) else (some false)) else (some false))) else (some false)) else (some false)) else (some false)) else (if (bt390.2.2.2.2 == bt396.2.2.2.2) = true then (if bt390.2.2.2.2 = true then (if bt402.1.toList = t389.toList then (if (t413.length : Int) = 2 then (if (t409.size : Int) = 32 then ((spec_HeadRoot.f k bt404.1 bt404.2.1 bt404.2.2.1 bt404.2.2.2).bind fun t432 => (if t409.toList = t432.toList then ((impl_SigText.f k bt416.1 bt416.2.1 bt416.2.2.1 bt416.2.2.2.1 bt416.2.2.2.2).bind fun t433 => ((spec_SigText.f k bt416.1 bt416.2.1 bt416.2.2.1 bt416.2.2.2.1 bt416.2.2.2.2).bind fun t434 => (if t433.toList = t434.toList then ((impl_SigText.f k bt404.1 bt404.2.1 bt404.2.2.1 bt404.2.2.2 7).bind fun t435 => (some ((t435.size : Int) == 33))) else (some false)))) else (some false))) else (some false)) else (some false)) else (some false)) else (if (t413.length : Int) = 2 then (if (t409.size : Int) = 32 then ((spec_HeadRoot.f k bt404.1 bt404.2.1 bt404.2.2.1 bt404.2.2.2).bind fun t436 => (if t409.toList = t436.toList then ((impl_SigText.f k bt416.1 bt416.2.1 bt416.2.2.1 bt416.2.2.2.1 bt416.2.2.2.2).bind fun t437 => ((spec_SigText.f k bt416.1 bt416.2.1 bt416.2.2.1 bt416.2.2.2.1 bt416.2.2.2.2).bind fun t438 => (if t437.toList = t438.toList then ((impl_SigText.f k bt404.1 bt404.2.1 bt404.2.2.1 bt404.2.2.2 7).bind fun t439 => (some ((t439.size : Int) == 33))) else (some false)))) else (some false))) else (some false)) else (some false))) else (some false))) else (some false))) else (some false)))))))))))))))
theorem laws_FnHeads.mono : ∀ a0 k, LeO (laws_FnHeads.f k a0) (laws_FnHeads.f (k + 1) a0) := by
 intro a0 k
 unfold laws_FnHeads.f
 repeat' first
   | (with_reducible exact impl_HeadRoot.mono _ _ _ _ _)
   | (with_reducible exact impl_HeadText.mono _ _ _ _ _)
   | (with_reducible exact impl_ReadHead.mono _ _)
   | (with_reducible exact impl_SigText.mono _ _ _ _ _ _)
   | (with_reducible exact spec_BranchOf.mono _ _ _)
   | (with_reducible exact spec_DrawHead.mono _ _)
   | (with_reducible exact spec_DrawHeadText.mono _ _)
   | (with_reducible exact spec_DrawReadHead.mono _ _)
   | (with_reducible exact spec_DrawSigText.mono _ _)
   | (with_reducible exact spec_HeadRoot.mono _ _ _ _ _)
   | (with_reducible exact spec_ReadHead.mono _ _)
   | (with_reducible exact spec_SigText.mono _ _ _ _ _ _)
   | (with_reducible exact LeO.refl _)
   | (with_reducible exact LeO.none _)
   | (with_reducible refine LeO.ite ?_ ?_)
   | (with_reducible refine LeO.bind ?_ (fun _ => ?_))
   | exact impl_HeadRoot.mono _ _ _ _ _
   | exact impl_HeadText.mono _ _ _ _ _
   | exact impl_ReadHead.mono _ _
   | exact impl_SigText.mono _ _ _ _ _ _
   | exact spec_BranchOf.mono _ _ _
   | exact spec_DrawHead.mono _ _
   | exact spec_DrawHeadText.mono _ _
   | exact spec_DrawReadHead.mono _ _
   | exact spec_DrawSigText.mono _ _
   | exact spec_HeadRoot.mono _ _ _ _ _
   | exact spec_ReadHead.mono _ _
   | exact spec_SigText.mono _ _ _ _ _ _
   | exact LeO.none _
   | refine LeO.ite ?_ ?_
   | refine LeO.bind ?_ (fun _ => ?_)
def laws_FnHeads.T14 : Bool × List (List Nat × List Nat) := (true, [([], []), ([], []), ([1], [1]), ([0, 2], [0, 2]), ([3, 2], [3]), ([4], [4]), ([5, 4, 4], [4, 5]), ([4], [4]), ([6, 7, 4], [4, 6, 7]), ([4, 8], [4, 8]), ([9, 6], [9]), ([10], [10]), ([11, 10], [10, 11]), ([12, 10, 10], [10, 12]), ([13], [13]), ([14, 13, 13], [13, 14]), ([15], [15]), ([15], [15]), ([16, 17, 15], [15, 16, 17]), ([15, 18, 13], [13, 15, 18]), ([13, 19, 10], [10, 13, 19]), ([10, 20], [10, 20]), ([21, 15], [21]), ([22], [22]), ([22], [22]), ([23, 24, 22], [22, 23, 24]), ([22, 25], [22, 25]), ([26, 22], [26]), ([27], [27]), ([28, 27], [27, 28]), ([29, 27, 27], [27, 29]), ([30], [30]), ([30], [30]), ([31, 32, 30], [30, 31, 32]), ([30, 33, 27], [27, 30, 33]), ([27, 34], [27, 34]), ([35, 30], [35]), ([36], [36]), ([37, 36], [36, 37]), ([38, 36], [36, 38]), ([36, 39], [36, 39]), ([40, 36], [40]), ([41], [41]), ([42, 41], [41, 42]), ([43, 41], [41, 43]), ([41, 44], [41, 44]), ([45, 41], [45]), ([46], [46]), ([46], [46]), ([48, 46, 46], [46, 48]), ([47, 49, 46], [46, 47, 49]), ([46, 50], [46, 50]), ([51, 49], [51]), ([52], [52]), ([52], [52]), ([53, 54, 52, 52], [52, 53, 54]), ([52], [52]), ([52], [52]), ([56, 57, 55, 52], [52, 56, 57]), ([55, 58, 52], [52, 55, 58]), ([52, 59], [52, 59]), ([60, 58], [60]), ([61], [61]), ([62, 61, 61], [61, 62]), ([63, 61], [61, 63]), ([64, 61], [61, 64]), ([61, 65], [61, 65]), ([66, 63, 0, 1, 2, 3, 4, 5, 6, 7, 8, 9, 10, 11, 12, 13, 14, 15, 16, 17, 18, 19, 20, 21, 22, 23, 24, 25, 26, 27, 28, 29, 30, 31, 32, 33, 34, 35, 36, 37, 38, 39, 40, 41, 42, 43, 44, 45, 46, 47, 48, 49, 50, 51, 52, 53, 54, 55, 56, 57, 58, 59, 60, 61, 62, 63, 64, 65, 66], [66])])
def laws_FnHeads.B14 : List Nat := [0, 0, 2, 7, 15, 31, 63, 31, 255, 511, 1023, 2047, 4095, 8191, 16383, 32767, 65535, 65535, 262143, 524287, 1048575, 2097151, 4194303, 8388607, 8388607, 33554431, 67108863, 134217727, 268435455, 536870911, 1073741823, 2147483647, 2147483647, 8589934591, 17179869183, 34359738367, 68719476735, 137438953471, 274877906943, 549755813887, 1099511627775, 2199023255551, 4398046511103, 8796093022207, 17592186044415, 35184372088831, 70368744177663, 140737488355327, 140737488355327, 422212465065983, 1125899906842623, 2251799813685247, 4503599627370495, 9007199254740991, 9007199254740991, 36028797018963967, 9007199254740991, 9007199254740991, 288230376151711743, 576460752303423487, 1152921504606846975, 2305843009213693951, 4611686018427387903, 9223372036854775807, 18446744073709551615, 36893488147419103231, 73786976294838206463, 147573952589676412927]
theorem laws_FnHeads.tab14 : rtab .any (opsOf Tryd.f10 14) = laws_FnHeads.T14 := by kernel_rfl
theorem laws_FnHeads.bits14 : waitsOk laws_FnHeads.T14.2 laws_FnHeads.B14 = true := by kernel_rfl
set_option maxHeartbeats 8000000 in
set_option maxRecDepth 100000 in
theorem laws_FnHeads.calls (k : Nat) (A0 : Option Addr) (c0 : Nat) (l0 : List Int) (r : Bool) (w : World) (hr0 : Kd.C (Kd.int .u8) w A0 l0.length l0) (hc0 : l0.length ≤ c0) (hT : Kp.Tab w) (htrue : Aside0 (r = true)) (h : laws_FnHeads.f k l0 = some r) :
  Calls Tryd.prog 10 #[.slice A0 l0.length c0] w fun e w' => e = .returned (.bool r) ∧ Below w.heap.size w w' := by
 have HT := Aside0.mk hT
 clear hT
 have hu34 := Tryd.underlying34
 have HR0 := Aside0.mk hr0
 have HC0 := Aside0.mk hc0
 clear hr0 hc0
 have HB := Aside0.mk (Below.refl w.heap.size w)
 have H : ((laws_big.f l0).bind fun t375 => (if t375 = true then (some true) else ((spec_DrawHeadText.f k l0).bind fun bt376 => ((impl_HeadText.f k bt376.1 bt376.2.1 bt376.2.2.1 bt376.2.2.2).bind fun bt381 => ((impl_ReadHead.f k bt381.1).bind fun bt383 => ((spec_DrawReadHead.f k l0).bind fun t389 => ((impl_ReadHead.f k t389).bind fun bt390 => ((spec_ReadHead.f k t389).bind fun bt396 => ((impl_HeadText.f k bt390.1 bt390.2.1 bt390.2.2.1 bt390.2.2.2.1).bind fun bt402 => ((spec_DrawHead.f k l0).bind fun bt404 => ((impl_HeadRoot.f k bt404.1 bt404.2.1 bt404.2.2.1 bt404.2.2.2).bind fun t409 => ((spec_BranchOf.f k (([(⟨#[]⟩ : ByteArray), bt404.2.1, bt404.2.2.1, bt404.2.2.2] : List ByteArray)) 2).bind fun t413 => ((spec_DrawSigText.f k l0).bind fun bt416 => ((spec_HeadOk.f bt376.1 bt376.2.1 bt376.2.2.1 bt376.2.2.2).bind fun t422 => (if (bt381.2 == t422) = true then ((impl_HeadOk.f bt376.1 bt376.2.1 bt376.2.2.1 bt376.2.2.2).bind fun t423 => (if (t423 == bt381.2) = true then (if bt381.2 = true then (if bt383.2.2.2.2 = true then (if (bt383.1 == bt376.1 && (bt383.2.1.toList == bt376.2.1.toList && (bt383.2.2.1.toList == bt376.2.2.1.toList && (bt383.2.2.2.1.toList == bt376.2.2.2.toList)))) = true then (if (bt390.2.2.2.2 == bt396.2.2.2.2) = true then (if bt390.2.2.2.2 = true then (if bt402.1.toList = t389.toList then (if (t413.length : Int) = 2 then (if (t409.size : Int) = 32 then ((spec_HeadRoot.f k bt404.1 bt404.2.1 bt404.2.2.1 bt404.2.2.2).bind fun t424 => (if t409.toList = t424.toList then ((impl_SigText.f k bt416.1 bt416.2.1 bt416.2.2.1 bt416.2.2.2.1 bt416.2.2.2.2).bind fun t425 => ((spec_SigText.f k bt416.1 bt416.2.1 bt416.2.2.1 bt416.2.2.2.1 bt416.2.2.2.2).bind fun t426 => (if t425.toList = t426.toList then ((impl_SigText.f k bt404.1 bt404.2.1 bt404.2.2.1 bt404.2.2.2 7).bind fun t427 => (some ((t427.size : Int) == 33))) else (some false)))) else (some false))) else (some false)) else (some false)) else (some false)) else (if (t413.length : Int) = 2 then (if (t409.size : Int) = 32 then ((spec_HeadRoot.f k bt404.1 bt404.2.1 bt404.2.2.1 bt404.2.2.2).bind fun t428 => (if t409.toList = t428.toList then ((impl_SigText.f k bt416.1 bt416.2.1 bt416.2.2.1 bt416.2.2.2.1 bt416.2.2.2.2).bind fun t429 => ((spec_SigText.f k bt416.1 bt416.2.1 bt416.2.2.1 bt416.2.2.2.1 bt416.2.2.2.2).bind fun t430 => (if t429.toList = t430.toList then ((impl_SigText.f k bt404.1 bt404.2.1 bt404.2.2.1 bt404.2.2.2 7).bind fun t431 => (some ((t431.size : Int) == 33))) else (some false)))) else (some false))) else (some false)) else (some false))) else (some false)) else (some false)) else (some false)) else (if (bt390.2.2.2.2 == bt396.2.2.2.2) = true then (if bt390.2.2.2.2 = true then (if bt402.1.toList = t389.toList then (if (t413.length : Int) = 2 then (if (t409.size : Int) = 32 then ((spec_HeadRoot.f k bt404.1 bt404.2.1 bt404.2.2.1 bt404.2.2.2).bind fun t432 => (if t409.toList = t432.toList then ((impl_SigText.f k bt416.1 bt416.2.1 bt416.2.2.1 bt416.2.2.2.1 bt416.2.2.2.2).bind fun t433 => ((spec_SigText.f k bt416.1 bt416.2.1 bt416.2.2.1 bt416.2.2.2.1 bt416.2.2.2.2).bind fun t434 => (if t433.toList = t434.toList then ((impl_SigText.f k bt404.1 bt404.2.1 bt404.2.2.1 bt404.2.2.2 7).bind fun t435 => (some ((t435.size : Int) == 33))) else (some false)))) else (some false))) else (some false)) else (some false)) else (some false)) else (if (t413.length : Int) = 2 then (if (t409.size : Int) = 32 then ((spec_HeadRoot.f k bt404.1 bt404.2.1 bt404.2.2.1 bt404.2.2.2).bind fun t436 => (if t409.toList = t436.toList then ((impl_SigText.f k bt416.1 bt416.2.1 bt416.2.2.1 bt416.2.2.2.1 bt416.2.2.2.2).bind fun t437 => ((spec_SigText.f k bt416.1 bt416.2.1 bt416.2.2.1 bt416.2.2.2.1 bt416.2.2.2.2).bind fun t438 => (if t437.toList = t438.toList then ((impl_SigText.f k bt404.1 bt404.2.1 bt404.2.2.1 bt404.2.2.2 7).bind fun t439 => (some ((t439.size : Int) == 33))) else (some false)))) else (some false))) else (some false)) else (some false))) else (some false))) else (some false))) else (some false)))))))))))))))) = some r := h
 clear h
 replace H := Option.bind_eq_some_iff.mp H
 obtain ⟨t375, A20, H⟩ := H
 have A2 := Aside0.mk A20
 clear A20
 by_cases c3 : t375 = true
 ·subst c3
  rw [if_pos rfl] at H
  obtain rfl := Option.some.inj H
  go_enter Tryd.func10, Tryd.ntmps10
  go_wp2_with (first | ((with_reducible refine gate_callee (f := 26) rfl ?_); refine gL (some 21) Tryd.func26 #[.slice A0 l0.length c0] ?_; (with_reducible refine (laws_big.calls _ _ l0 true _ ?side1 ?side2 A2.out).mono ?_); (case side1 => exact cP HR0.out); (case side2 => exact HC0.out); rintro e w' ⟨rfl, ⟨nd, rfl⟩⟩; refine ⟨_, rfl, ?_⟩))
  go_ret
  exact ⟨rR, bZ HB⟩
 ·replace c3 := Bool.eq_false_iff.mpr c3
  subst c3
  rw [if_neg (show ¬ (false = true) by decide)] at H
  replace H := Option.bind_eq_some_iff.mp H
  obtain ⟨⟨t376, t377, t378, t379⟩, A40, H⟩ := H
  have A4 := Aside0.mk A40
  clear A40
  replace H := Option.bind_eq_some_iff.mp H
  obtain ⟨⟨t381, t382⟩, A50, H⟩ := H
  have A5 := Aside0.mk A50
  clear A50
  replace H := Option.bind_eq_some_iff.mp H
  obtain ⟨⟨t383, t384, t385, t386, t387⟩, A60, H⟩ := H
  have A6 := Aside0.mk A60
  clear A60
  replace H := Option.bind_eq_some_iff.mp H
  obtain ⟨t389, A70, H⟩ := H
  have A7 := Aside0.mk A70
  clear A70
  replace H := Option.bind_eq_some_iff.mp H
  obtain ⟨⟨t390, t391, t392, t393, t394⟩, A80, H⟩ := H
  have A8 := Aside0.mk A80
  clear A80
  replace H := Option.bind_eq_some_iff.mp H
  obtain ⟨⟨t396, t397, t398, t399, t400⟩, A90, H⟩ := H
  have A9 := Aside0.mk A90
  clear A90
  replace H := Option.bind_eq_some_iff.mp H
  obtain ⟨⟨t402, t403⟩, A100, H⟩ := H
  have A10 := Aside0.mk A100
  clear A100
  replace H := Option.bind_eq_some_iff.mp H
  obtain ⟨⟨t404, t405, t406, t407⟩, A110, H⟩ := H
  have A11 := Aside0.mk A110
  clear A110
  replace H := Option.bind_eq_some_iff.mp H
  obtain ⟨t409, A120, H⟩ := H
  have A12 := Aside0.mk A120
  clear A120
  obtain ⟨y410, hy410⟩ : ∃ y_ : List ByteArray, y_ = (([(⟨#[]⟩ : ByteArray), t405, t406, t407] : List ByteArray)) := ⟨_, rfl⟩
  replace H : ((spec_BranchOf.f k y410 2).bind fun t413 => ((spec_DrawSigText.f k l0).bind fun bt416 => ((spec_HeadOk.f t376 t377 t378 t379).bind fun t422 => (if (t382 == t422) = true then ((impl_HeadOk.f t376 t377 t378 t379).bind fun t423 => (if (t423 == t382) = true then (if t382 = true then (if t387 = true then (if (t383 == t376 && (t384.toList == t377.toList && (t385.toList == t378.toList && (t386.toList == t379.toList)))) = true then (if (t394 == t400) = true then (if t394 = true then (if t402.toList = t389.toList then (if (t413.length : Int) = 2 then (if (t409.size : Int) = 32 then ((spec_HeadRoot.f k t404 t405 t406 t407).bind fun t424 => (if t409.toList = t424.toList then ((impl_SigText.f k bt416.1 bt416.2.1 bt416.2.2.1 bt416.2.2.2.1 bt416.2.2.2.2).bind fun t425 => ((spec_SigText.f k bt416.1 bt416.2.1 bt416.2.2.1 bt416.2.2.2.1 bt416.2.2.2.2).bind fun t426 => (if t425.toList = t426.toList then ((impl_SigText.f k t404 t405 t406 t407 7).bind fun t427 => (some ((t427.size : Int) == 33))) else (some false)))) else (some false))) else (some false)) else (some false)) else (some false)) else (if (t413.length : Int) = 2 then (if (t409.size : Int) = 32 then ((spec_HeadRoot.f k t404 t405 t406 t407).bind fun t428 => (if t409.toList = t428.toList then ((impl_SigText.f k bt416.1 bt416.2.1 bt416.2.2.1 bt416.2.2.2.1 bt416.2.2.2.2).bind fun t429 => ((spec_SigText.f k bt416.1 bt416.2.1 bt416.2.2.1 bt416.2.2.2.1 bt416.2.2.2.2).bind fun t430 => (if t429.toList = t430.toList then ((impl_SigText.f k t404 t405 t406 t407 7).bind fun t431 => (some ((t431.size : Int) == 33))) else (some false)))) else (some false))) else (some false)) else (some false))) else (some false)) else (some false)) else (some false)) else (if (t394 == t400) = true then (if t394 = true then (if t402.toList = t389.toList then (if (t413.length : Int) = 2 then (if (t409.size : Int) = 32 then ((spec_HeadRoot.f k t404 t405 t406 t407).bind fun t432 => (if t409.toList = t432.toList then ((impl_SigText.f k bt416.1 bt416.2.1 bt416.2.2.1 bt416.2.2.2.1 bt416.2.2.2.2).bind fun t433 => ((spec_SigText.f k bt416.1 bt416.2.1 bt416.2.2.1 bt416.2.2.2.1 bt416.2.2.2.2).bind fun t434 => (if t433.toList = t434.toList then ((impl_SigText.f k t404 t405 t406 t407 7).bind fun t435 => (some ((t435.size : Int) == 33))) else (some false)))) else (some false))) else (some false)) else (some false)) else (some false)) else (if (t413.length : Int) = 2 then (if (t409.size : Int) = 32 then ((spec_HeadRoot.f k t404 t405 t406 t407).bind fun t436 => (if t409.toList = t436.toList then ((impl_SigText.f k bt416.1 bt416.2.1 bt416.2.2.1 bt416.2.2.2.1 bt416.2.2.2.2).bind fun t437 => ((spec_SigText.f k bt416.1 bt416.2.1 bt416.2.2.1 bt416.2.2.2.1 bt416.2.2.2.2).bind fun t438 => (if t437.toList = t438.toList then ((impl_SigText.f k t404 t405 t406 t407 7).bind fun t439 => (some ((t439.size : Int) == 33))) else (some false)))) else (some false))) else (some false)) else (some false))) else (some false))) else (some false))) else (some false))))) = some r := by first | (rw [hy410]; with_reducible exact H) | (have H2_ := (Option.bind_some _ _).symm.trans H; rw [hy410]; with_reducible exact H2_) | (have H2_ := (Option.bind_some _ _).symm.trans H; with_reducible exact H2_) | with_reducible exact H | (rw [hy410]; exact H) | exact H
  have Ny410 := Aside0.mk hy410
  clear hy410
  replace H := Option.bind_eq_some_iff.mp H
  obtain ⟨t413, A130, H⟩ := H
  have A13 := Aside0.mk A130
  clear A130
  replace H := Option.bind_eq_some_iff.mp H
  obtain ⟨⟨t416, t417, t418, t419, t420⟩, A140, H⟩ := H
  have A14 := Aside0.mk A140
  clear A140
  replace H := Option.bind_eq_some_iff.mp H
  obtain ⟨t422, A150, H⟩ := H
  have A15 := Aside0.mk A150
  clear A150
  by_cases c16 : (t382 == t422) = true
  ·rw [if_pos c16] at H
   have c16b0 : (t382 == t422) = true := c16
   (try (have c16b1 : decide (t382 = t422) = true := by simpa using c16))
   (try (have c16b2 : (t382 == t422) = true := by simpa using c16))
   clear c16
   replace H := Option.bind_eq_some_iff.mp H
   obtain ⟨t423, A170, H⟩ := H
   have A17 := Aside0.mk A170
   clear A170
   by_cases c18 : (t423 == t382) = true
   ·rw [if_pos c18] at H
    have c18b0 : (t423 == t382) = true := c18
    (try (have c18b1 : decide (t423 = t382) = true := by simpa using c18))
    (try (have c18b2 : (t423 == t382) = true := by simpa using c18))
    clear c18
    by_cases c19 : t382 = true
    ·subst c19
     rw [if_pos rfl] at H
     by_cases c20 : t387 = true
     ·subst c20
      rw [if_pos rfl] at H
      by_cases c21 : (t383 == t376 && (t384.toList == t377.toList && (t385.toList == t378.toList && (t386.toList == t379.toList)))) = true
      ·rw [if_pos c21] at H
       have c21b0 : (t383 == t376 && (t384.toList == t377.toList && (t385.toList == t378.toList && (t386.toList == t379.toList)))) = true := c21
       (try (have c21b1 : decide (t383 = t376 && (t384.toList == t377.toList && (t385.toList == t378.toList && (t386.toList == t379.toList)))) = true := by simpa using c21))
       (try (have c21b2 : (t383 == t376 && (t384.toList == t377.toList && (t385.toList == t378.toList && (t386.toList == t379.toList)))) = true := by simpa using c21))
       clear c21
       by_cases c22 : (t394 == t400) = true
       ·rw [if_pos c22] at H
        have c22b0 : (t394 == t400) = true := c22
        (try (have c22b1 : decide (t394 = t400) = true := by simpa using c22))
        (try (have c22b2 : (t394 == t400) = true := by simpa using c22))
        clear c22
        by_cases c23 : t394 = true
        ·subst c23
         rw [if_pos rfl] at H
         by_cases c24 : t402.toList = t389.toList
         ·rw [if_pos c24] at H
          have c24b0 : (t402.toList == t389.toList) = true := beq_iff_eq.mpr c24
          have c24b1 : (t402.toList != t389.toList) = false := bne_eq_false_iff_eq.mpr c24
          clear c24
          by_cases c25 : (t413.length : Int) = 2
          ·rw [if_pos c25] at H
           have c25b0 : ((t413.length : Int) == 2) = true := beq_iff_eq.mpr c25
           have c25b1 : ((t413.length : Int) != 2) = false := bne_eq_false_iff_eq.mpr c25
           clear c25
           by_cases c26 : (t409.size : Int) = 32
           ·rw [if_pos c26] at H
            have c26b0 : ((t409.size : Int) == 32) = true := beq_iff_eq.mpr c26
            have c26b1 : ((t409.size : Int) != 32) = false := bne_eq_false_iff_eq.mpr c26
            clear c26
            replace H := Option.bind_eq_some_iff.mp H
            obtain ⟨t424, A270, H⟩ := H
            have A27 := Aside0.mk A270
            clear A270
            by_cases c28 : t409.toList = t424.toList
            ·rw [if_pos c28] at H
             have c28b0 : (t409.toList == t424.toList) = true := beq_iff_eq.mpr c28
             have c28b1 : (t409.toList != t424.toList) = false := bne_eq_false_iff_eq.mpr c28
             clear c28
             replace H := Option.bind_eq_some_iff.mp H
             obtain ⟨t425, A290, H⟩ := H
             have A29 := Aside0.mk A290
             clear A290
             replace H := Option.bind_eq_some_iff.mp H
             obtain ⟨t426, A300, H⟩ := H
             have A30 := Aside0.mk A300
             clear A300
             by_cases c31 : t425.toList = t426.toList
             ·rw [if_pos c31] at H
              have c31b0 : (t425.toList == t426.toList) = true := beq_iff_eq.mpr c31
              have c31b1 : (t425.toList != t426.toList) = false := bne_eq_false_iff_eq.mpr c31
              clear c31
              replace H := Option.bind_eq_some_iff.mp H
              obtain ⟨t427, A320, H⟩ := H
              have A32 := Aside0.mk A320
              clear A320
              obtain rfl := Option.some.inj H
              go_enter Tryd.func10, Tryd.ntmps10
              try go_wp2_with (first | ((with_reducible refine gate_callee (f := 26) rfl ?_); refine gL (some 21) Tryd.func26 #[.slice A0 l0.length c0] ?_; (with_reducible refine (laws_big.calls _ _ l0 false _ ?side1 ?side2 A2.out).mono ?_); (case side1 => exact cP HR0.out); (case side2 => exact HC0.out); rintro e w' ⟨rfl, ⟨nd, rfl⟩⟩; refine ⟨_, rfl, ?_⟩) | ((with_reducible refine gate_callee (f := 40) rfl ?_); refine gL (some 23) Tryd.func40 #[.slice A0 l0.length c0] ?_; (with_reducible refine (spec_DrawHeadText.calls k _ _ l0 t376 t377 t378 t379 _ ?side1 ?side2 A4.out).mono ?_); (case side1 => exact cP HR0.out); (case side2 => exact HC0.out); rintro e w33 ⟨rfl, hb⟩; refine ⟨_, rfl, ?_⟩; replace HB := bS HB hb; (try clear hb)) | ((with_reducible refine gate_dst (N := 3) rfl ?_); (try (refine gate_guard (by rfl) ?_; dsimp only)); refine box_event ?hg (N := 3) ?hd (cs := #[.int .i64 0, .string (⟨#[]⟩ : ByteArray), .string (⟨#[]⟩ : ByteArray), .string (⟨#[]⟩ : ByteArray)]) (t := 34) ?hr ?_; (case hd => rfl); (case hg => rfl); (case hr => first | (go_simp; done) | (go_simp; rfl)); intro gb380 hg w34 hbox hb; have BK380 := Aside0.mk (hbox); have GW380 := bG HB hg; have GE380 := bG HB hg; replace HB := bS HB hb; clear hb hbox hg; obtain ⟨hcz35_0, hcz35_1, hcz35_2, hcz35_3, hfz35_0, hfz35_1, hfz35_2, hfz35_3⟩ := bK4 (w := w34) BK380) | ((with_reducible refine gate_callee (f := 41) rfl ?_); refine gL (some 26) Tryd.func41 #[.agg #[.int .i64 t376, .string t377, .string t378, .string t379]] ?_; (with_reducible refine (impl_HeadText.calls k t376 t377 t378 t379 t381 true _ A5.out).mono ?_); rintro e w36 ⟨rfl, hb⟩; refine ⟨_, rfl, ?_⟩; replace BK380 := bV 34 #[.int .i64 t376, .string t377, .string t378, .string t379] BK380 hb; replace HB := bS HB hb; (try clear hb)) | ((with_reducible refine gate_callee (f := 42) rfl ?_); refine gL (some 31) Tryd.func42 #[.string t381] ?_; (with_reducible refine (impl_ReadHead.calls k t381 t383 t384 t385 t386 true _ A6.out).mono ?_); rintro e w37 ⟨rfl, hb⟩; refine ⟨_, rfl, ?_⟩; replace BK380 := bB BK380 hb; replace HB := bS HB hb; (try clear hb)) | ((with_reducible refine gate_dst (N := 6) rfl ?_); (try (refine gate_guard (by rfl) ?_; dsimp only)); refine box_event ?hg (N := 6) ?hd (cs := #[.int .i64 0, .string (⟨#[]⟩ : ByteArray), .string (⟨#[]⟩ : ByteArray), .string (⟨#[]⟩ : ByteArray)]) (t := 34) ?hr ?_; (case hd => rfl); (case hg => rfl); (case hr => first | (go_simp; done) | (go_simp; rfl)); intro gb388 hg w38 hbox hb; have BK388 := Aside0.mk (hbox); have GW388 := bG HB hg; have GE388 := bG HB hg; replace HB := bS HB hb; have NB380_388 := bL BK380 hg; have NB388_380 := bR BK380 hg; replace BK380 := bB BK380 hb; clear hb hbox hg; obtain ⟨hnb39, hnc39⟩ := nB NB388_380; obtain ⟨hcz40_0, hcz40_1, hcz40_2, hcz40_3, hfz40_0, hfz40_1, hfz40_2, hfz40_3⟩ := bK4 (w := w38) BK388) | ((with_reducible refine gate_callee (f := 43) rfl ?_); refine gL (some 35) Tryd.func43 #[.slice A0 l0.length c0] ?_; (with_reducible refine (spec_DrawReadHead.calls k _ _ l0 t389 _ ?side1 ?side2 A7.out).mono ?_); (case side1 => exact Kd.C_below HR0.out (bZ HB)); (case side2 => exact HC0.out); rintro e w41 ⟨rfl, hb⟩; refine ⟨_, rfl, ?_⟩; replace BK380 := bB BK380 hb; replace BK388 := bV 34 #[.int .i64 t383, .string t384, .string t385, .string t386] BK388 hb; replace HB := bS HB hb; (try clear hb)) | ((with_reducible refine gate_callee (f := 42) rfl ?_); refine gL (some 38) Tryd.func42 #[.string t389] ?_; (with_reducible refine (impl_ReadHead.calls k t389 t390 t391 t392 t393 true _ A8.out).mono ?_); rintro e w42 ⟨rfl, hb⟩; refine ⟨_, rfl, ?_⟩; replace BK380 := bB BK380 hb; replace BK388 := bB BK388 hb; replace HB := bS HB hb; (try clear hb)) | ((with_reducible refine gate_dst (N := 9) rfl ?_); (try (refine gate_guard (by rfl) ?_; dsimp only)); refine box_event ?hg (N := 9) ?hd (cs := #[.int .i64 0, .string (⟨#[]⟩ : ByteArray), .string (⟨#[]⟩ : ByteArray), .string (⟨#[]⟩ : ByteArray)]) (t := 34) ?hr ?_; (case hd => rfl); (case hg => rfl); (case hr => first | (go_simp; done) | (go_simp; rfl)); intro gb395 hg w43 hbox hb; have BK395 := Aside0.mk (hbox); have GW395 := bG HB hg; have GE395 := bG HB hg; replace HB := bS HB hb; have NB380_395 := bL BK380 hg; have NB395_380 := bR BK380 hg; replace BK380 := bB BK380 hb; have NB388_395 := bL BK388 hg; have NB395_388 := bR BK388 hg; replace BK388 := bB BK388 hb; clear hb hbox hg; obtain ⟨hnb44, hnc44⟩ := nB NB395_380; obtain ⟨hnb45, hnc45⟩ := nB NB395_388; obtain ⟨hcz46_0, hcz46_1, hcz46_2, hcz46_3, hfz46_0, hfz46_1, hfz46_2, hfz46_3⟩ := bK4 (w := w43) BK395) | ((with_reducible refine gate_callee (f := 44) rfl ?_); refine gL (some 43) Tryd.func44 #[.string t389] ?_; (with_reducible refine (spec_ReadHead.calls k t389 t396 t397 t398 t399 t400 _ A9.out).mono ?_); rintro e w47 ⟨rfl, hb⟩; refine ⟨_, rfl, ?_⟩; replace BK380 := bB BK380 hb; replace BK388 := bB BK388 hb; replace BK395 := bV 34 #[.int .i64 t390, .string t391, .string t392, .string t393] BK395 hb; replace HB := bS HB hb; (try clear hb)) | ((with_reducible refine gate_dst (N := 11) rfl ?_); (try (refine gate_guard (by rfl) ?_; dsimp only)); refine box_event ?hg (N := 11) ?hd (cs := #[.int .i64 0, .string (⟨#[]⟩ : ByteArray), .string (⟨#[]⟩ : ByteArray), .string (⟨#[]⟩ : ByteArray)]) (t := 34) ?hr ?_; (case hd => rfl); (case hg => rfl); (case hr => first | (go_simp; done) | (go_simp; rfl)); intro gb401 hg w48 hbox hb; have BK401 := Aside0.mk (hbox); have GW401 := bG HB hg; have GE401 := bG HB hg; replace HB := bS HB hb; have NB380_401 := bL BK380 hg; have NB401_380 := bR BK380 hg; replace BK380 := bB BK380 hb; have NB388_401 := bL BK388 hg; have NB401_388 := bR BK388 hg; replace BK388 := bB BK388 hb; have NB395_401 := bL BK395 hg; have NB401_395 := bR BK395 hg; replace BK395 := bB BK395 hb; clear hb hbox hg; obtain ⟨hnb49, hnc49⟩ := nB NB401_380; obtain ⟨hnb50, hnc50⟩ := nB NB401_388; obtain ⟨hnb51, hnc51⟩ := nB NB401_395; obtain ⟨hcz52_0, hcz52_1, hcz52_2, hcz52_3, hfz52_0, hfz52_1, hfz52_2, hfz52_3⟩ := bK4 (w := w48) BK401; obtain ⟨hcz53_0, hcz53_1, hcz53_2, hcz53_3, hfz53_0, hfz53_1, hfz53_2, hfz53_3⟩ := bK4 (w := w48) BK395) | ((with_reducible refine gate_callee (f := 41) rfl ?_); refine gL (some 48) Tryd.func41 #[.agg #[.int .i64 t390, .string t391, .string t392, .string t393]] ?_; (with_reducible refine (impl_HeadText.calls k t390 t391 t392 t393 t402 t403 _ A10.out).mono ?_); rintro e w54 ⟨rfl, hb⟩; refine ⟨_, rfl, ?_⟩; replace BK380 := bB BK380 hb; replace BK388 := bB BK388 hb; replace BK395 := bB BK395 hb; replace BK401 := bV 34 #[.int .i64 t396, .string t397, .string t398, .string t399] BK401 hb; replace HB := bS HB hb; (try clear hb)) | ((with_reducible refine gate_callee (f := 45) rfl ?_); refine gL (some 52) Tryd.func45 #[.slice A0 l0.length c0] ?_; (with_reducible refine (spec_DrawHead.calls k _ _ l0 t404 t405 t406 t407 _ ?side1 ?side2 A11.out).mono ?_); (case side1 => exact cP (Kd.C_below HR0.out HB.out)); (case side2 => exact HC0.out); rintro e w55 ⟨rfl, hb⟩; refine ⟨_, rfl, ?_⟩; replace BK380 := bB BK380 hb; replace BK388 := bB BK388 hb; replace BK395 := bB BK395 hb; replace BK401 := bB BK401 hb; replace HB := bS HB hb; (try clear hb)) | ((with_reducible refine gate_dst (N := 15) rfl ?_); (try (refine gate_guard (by rfl) ?_; dsimp only)); refine box_event ?hg (N := 15) ?hd (cs := #[.int .i64 0, .string (⟨#[]⟩ : ByteArray), .string (⟨#[]⟩ : ByteArray), .string (⟨#[]⟩ : ByteArray)]) (t := 34) ?hr ?_; (case hd => rfl); (case hg => rfl); (case hr => first | (go_simp; done) | (go_simp; rfl)); intro gb408 hg w56 hbox hb; have BK408 := Aside0.mk (hbox); have GW408 := bG HB hg; have GE408 := bG HB hg; replace HB := bS HB hb; have NB380_408 := bL BK380 hg; have NB408_380 := bR BK380 hg; replace BK380 := bB BK380 hb; have NB388_408 := bL BK388 hg; have NB408_388 := bR BK388 hg; replace BK388 := bB BK388 hb; have NB395_408 := bL BK395 hg; have NB408_395 := bR BK395 hg; replace BK395 := bB BK395 hb; have NB401_408 := bL BK401 hg; have NB408_401 := bR BK401 hg; replace BK401 := bB BK401 hb; clear hb hbox hg; obtain ⟨hnb57, hnc57⟩ := nB NB408_380; obtain ⟨hnb58, hnc58⟩ := nB NB408_388; obtain ⟨hnb59, hnc59⟩ := nB NB408_395; obtain ⟨hnb60, hnc60⟩ := nB NB408_401; obtain ⟨hcz61_0, hcz61_1, hcz61_2, hcz61_3, hfz61_0, hfz61_1, hfz61_2, hfz61_3⟩ := bK4 (w := w56) BK408) | ((with_reducible refine gate_callee (f := 21) rfl ?_); refine gL (some 54) Tryd.func21 #[.agg #[.int .i64 t404, .string t405, .string t406, .string t407]] ?_; (with_reducible refine (impl_HeadRoot.calls k t404 t405 t406 t407 t409 _ (Kp.Tab.below HT.out (bZ HB)) A12.out).mono ?_); rintro e w62 ⟨rfl, hb⟩; refine ⟨_, rfl, ?_⟩; replace BK380 := bB BK380 hb; replace BK388 := bB BK388 hb; replace BK395 := bB BK395 hb; replace BK401 := bB BK401 hb; replace BK408 := bV 34 #[.int .i64 t404, .string t405, .string t406, .string t407] BK408 hb; replace HB := bS HB hb; (try clear hb); obtain ⟨hcz63_0, hcz63_1, hcz63_2, hcz63_3, hfz63_0, hfz63_1, hfz63_2, hfz63_3⟩ := bK4 (w := w62) BK408) | ((with_reducible refine gate_dst (N := 61) rfl ?_); (try (refine gate_guard (by rfl) ?_; dsimp only)); refine Kd.R_lit Kd.string _ 9 ?hg (N := 61) ?hd (xs := ([(⟨#[]⟩ : ByteArray), t405, t406, t407] : List ByteArray)) (inner := [.string (⟨#[]⟩ : ByteArray), .string t405, .string t406, .string t407]) (ok := fun _ => True) (okp := fun _ => True) ?hr ?hp (fun _ hk => hk) trivial (Below.refl _ _) (Nat.le_refl _) (by simp) ?_; (case hd => rfl); (case hg => rfl); (case hr => first | (go_simp; done) | (go_simp; rfl)); (case hp => exact (Reps.one (show Kd.M Kd.string _ _ _ (⟨#[]⟩ : ByteArray) [.string (⟨#[]⟩ : ByteArray)] from rfl) (Reps.one (show Kd.M Kd.string _ _ _ t405 [.string t405] from rfl) (Reps.one (show Kd.M Kd.string _ _ _ t406 [.string t406] from rfl) (Reps.one (show Kd.M Kd.string _ _ _ t407 [.string t407] from rfl) (Reps.none _ _)))))); intro v411 w64 ho65 hb hg_ hnew_; clear hg_ hnew_; (first | rw [← Ny410.out] at ho65 | (simp only [Int.reduceToNat] at ho65; rw [← Ny410.out] at ho65)); have HO412 := Aside0.mk (Kd.R_lower ho65 (below_size (bZ HB))); replace BK380 := bB BK380 hb; replace BK388 := bB BK388 hb; replace BK395 := bB BK395 hb; replace BK401 := bB BK401 hb; replace BK408 := bB BK408 hb; replace HB := bS HB hb; clear hb ho65; obtain ⟨Ao66, co66, eo66⟩ := Kd.R_slice HO412.out; subst eo66) | ((with_reducible refine gate_callee (f := 22) rfl ?_); refine gL (some 62) Tryd.func22 #[.slice Ao66 y410.length co66, .int .i64 2] ?_; (with_reducible refine (spec_BranchOf.calls k _ _ y410 2 t413 _ ?side1 ?side2 A13.out).mono ?_); (case side1 => exact cP ((Kd.R_reads' HO412.out).2.2)); (case side2 => exact (Kd.R_reads' HO412.out).2.1); rintro e w67 ⟨v414, rfl, ho0, hb⟩; refine ⟨_, rfl, ?_⟩; have HO415 := Aside0.mk (Kd.R_lower (Kd.R_new' ho0 (Kd.R_lt (rP HO412))) (below_size (bZ HB))); replace HO412 := Aside0.mk (Kd.R_elder' (rP HO412) (Kd.R_base ho0) hb); replace BK380 := bB BK380 hb; replace BK388 := bB BK388 hb; replace BK395 := bB BK395 hb; replace BK401 := bB BK401 hb; replace BK408 := bB BK408 hb; replace HB := bS HB hb; (try clear hb); (try clear ho0)) | ((with_reducible refine gate_callee (f := 46) rfl ?_); refine gL (some 65) Tryd.func46 #[.slice A0 l0.length c0] ?_; (with_reducible refine (spec_DrawSigText.calls k _ _ l0 t416 t417 t418 t419 t420 _ ?side1 ?side2 A14.out).mono ?_); (case side1 => exact cP (Kd.C_below HR0.out HB.out)); (case side2 => exact HC0.out); rintro e w68 ⟨rfl, hb⟩; refine ⟨_, rfl, ?_⟩; replace HO412 := Aside0.mk (Kd.R_below (rP HO412) hb); replace HO415 := Aside0.mk (Kd.R_below (rP HO415) hb); replace BK380 := bB BK380 hb; replace BK388 := bB BK388 hb; replace BK395 := bB BK395 hb; replace BK401 := bB BK401 hb; replace BK408 := bB BK408 hb; replace HB := bS HB hb; (try clear hb)) | ((with_reducible refine gate_dst (N := 18) rfl ?_); (try (refine gate_guard (by rfl) ?_; dsimp only)); refine box_event ?hg (N := 18) ?hd (cs := #[.int .i64 0, .string (⟨#[]⟩ : ByteArray), .string (⟨#[]⟩ : ByteArray), .string (⟨#[]⟩ : ByteArray)]) (t := 34) ?hr ?_; (case hd => rfl); (case hg => rfl); (case hr => first | (go_simp; done) | (go_simp; rfl)); intro gb421 hg w69 hbox hb; replace HO412 := Aside0.mk (Kd.R_below (rP HO412) hb); replace HO415 := Aside0.mk (Kd.R_below (rP HO415) hb); have BK421 := Aside0.mk (hbox); have GW421 := bG HB hg; have GE421 := bG HB hg; replace HB := bS HB hb; have NB380_421 := bL BK380 hg; have NB421_380 := bR BK380 hg; replace BK380 := bB BK380 hb; have NB388_421 := bL BK388 hg; have NB421_388 := bR BK388 hg; replace BK388 := bB BK388 hb; have NB395_421 := bL BK395 hg; have NB421_395 := bR BK395 hg; replace BK395 := bB BK395 hb; have NB401_421 := bL BK401 hg; have NB421_401 := bR BK401 hg; replace BK401 := bB BK401 hb; have NB408_421 := bL BK408 hg; have NB421_408 := bR BK408 hg; replace BK408 := bB BK408 hb; clear hb hbox hg; obtain ⟨hnb70, hnc70⟩ := nB NB421_380; obtain ⟨hnb71, hnc71⟩ := nB NB421_388; obtain ⟨hnb72, hnc72⟩ := nB NB421_395; obtain ⟨hnb73, hnc73⟩ := nB NB421_401; obtain ⟨hnb74, hnc74⟩ := nB NB421_408; obtain ⟨hcz75_0, hcz75_1, hcz75_2, hcz75_3, hfz75_0, hfz75_1, hfz75_2, hfz75_3⟩ := bK4 (w := w69) BK421))
              obtain ⟨w76, hW_⟩ : ∃ W_ : World, W_ = ((((w69.setCell ⟨gb421, 0, none⟩ (.int .i64 t416)).setCell ⟨gb421, 1, none⟩ (.string t417)).setCell ⟨gb421, 2, none⟩ (.string t418)).setCell ⟨gb421, 3, none⟩ (.string t419)) := ⟨_, rfl⟩
              have n0_ : Aside0 (Kd.R Kd.string 9 ((((w69.setCell ⟨gb421, 0, none⟩ (.int .i64 t416)).setCell ⟨gb421, 1, none⟩ (.string t417)).setCell ⟨gb421, 2, none⟩ (.string t418)).setCell ⟨gb421, 3, none⟩ (.string t419)) w.heap.size (fun k_ => some k_ ≠ (v414 : Value).ownBlock) (.slice Ao66 y410.length co66) y410) := ⟨by (with_reducible repeat (first | apply Kd.R_alloc | apply Kd.R_drewN | apply Kd.R_drew)); exact Kd.R_mono (Kd.R_far (p := ⟨gb421, 3, none⟩) (Kd.R_far (p := ⟨gb421, 2, none⟩) (Kd.R_far (p := ⟨gb421, 1, none⟩) (Kd.R_far (p := ⟨gb421, 0, none⟩) (Kd.R_types HO412.out BK421.out (by decide)) (fun _ hk => hk.2) (.int .i64 t416)) (fun _ hk => hk.2) (.string t417)) (fun _ hk => hk.2) (.string t418)) (fun _ hk => hk.2) (.string t419)) (fun _ hk => hk.1.2)⟩
              rw [← hW_] at n0_
              have n1_ : Aside0 (Kd.R Kd.string 9 ((((w69.setCell ⟨gb421, 0, none⟩ (.int .i64 t416)).setCell ⟨gb421, 1, none⟩ (.string t417)).setCell ⟨gb421, 2, none⟩ (.string t418)).setCell ⟨gb421, 3, none⟩ (.string t419)) w.heap.size (fun k_ => some k_ ≠ (.slice Ao66 y410.length co66 : Value).ownBlock) v414 t413) := ⟨by (with_reducible repeat (first | apply Kd.R_alloc | apply Kd.R_drewN | apply Kd.R_drew)); exact Kd.R_mono (Kd.R_far (p := ⟨gb421, 3, none⟩) (Kd.R_far (p := ⟨gb421, 2, none⟩) (Kd.R_far (p := ⟨gb421, 1, none⟩) (Kd.R_far (p := ⟨gb421, 0, none⟩) (Kd.R_types HO415.out BK421.out (by decide)) (fun _ hk => hk.2) (.int .i64 t416)) (fun _ hk => hk.2) (.string t417)) (fun _ hk => hk.2) (.string t418)) (fun _ hk => hk.2) (.string t419)) (fun _ hk => hk.1.2)⟩
              rw [← hW_] at n1_
              replace BK380 := bW hW_ BK380
              replace BK388 := bW hW_ BK388
              replace BK395 := bW hW_ BK395
              replace BK401 := bW hW_ BK401
              replace BK408 := bW hW_ BK408
              replace BK421 := bX hW_ 34 #[.int .i64 t416, .string t417, .string t418, .string t419] BK421
              (try clear HO412)
              (try clear HO415)
              have HO412 := n0_
              clear n0_
              have HO415 := n1_
              clear n1_
              replace HB := zW hW_ HB
              rw [← hW_]
              clear hW_
              replace HO412 := Aside0.mk (Kd.R_drew HO412.out)
              replace HO415 := Aside0.mk (Kd.R_drew HO415.out)
              replace BK380 := Aside0.mk (blk_drew BK380.out)
              replace BK388 := Aside0.mk (blk_drew BK388.out)
              replace BK395 := Aside0.mk (blk_drew BK395.out)
              replace BK401 := Aside0.mk (blk_drew BK401.out)
              replace BK408 := Aside0.mk (blk_drew BK408.out)
              replace BK421 := Aside0.mk (blk_drew BK421.out)
              replace HB := Aside0.mk (below_drew1 HB.out)
              refine start_ (n := 68) (S := fun w' => SP4 w' gb380 (.int .i64 t376) (.string t377) (.string t378) (.string t379) (SP4 w' gb388 (.int .i64 t383) (.string t384) (.string t385) (.string t386) (SP4 w' gb408 (.int .i64 t404) (.string t405) (.string t406) (.string t407) (SQ4 w' gb421 (.int .i64 t416) (.string t417) (.string t418) (.string t419))))) (ds := []) #[false, false, false, false, false, false, false, false, false, false, false, false, false, false, false, false, false, false, false, false, false, false, false, false, false, false, false, false, false, false, false, false, false, false, false, false, false, false, false, false, false, false, false, false, false, false, false, false, false, false, false, false, false, false, false, false, false, false, false, false, false, false, false, false, false, false, false, false] (by kernel_rfl) rfl rfl (bS4 BK380 (bS4 BK388 (bS4 BK408 (bT4 BK421)))) (fun hHeld => ?_); refine with_tabW laws_FnHeads.tab14 laws_FnHeads.bits14 (fun HT_ HW_ => ?_)
              generalize w76.drew = w77 at HO412 HO415 BK380 BK388 BK395 BK401 BK408 BK421 HB hHeld ⊢
              refine pI 0 (some 68) HT_.out ?_
              refine tI16 1 (some 69) HT_.out HW_.out hHeld ?_
              refine oI 2 (some 70) HT_.out (fun K hK => ?_)
              refine gO Tryd.func47 #[.agg #[.int .i64 t376, .string t377, .string t378, .string t379]] ?_
              with_reducible refine (spec_HeadOk.calls t376 t377 t378 t379 t422 _ A15.out).mono ?_
              rintro e w78 ⟨rfl, hb⟩
              refine ⟨_, rfl, ?_⟩
              replace HO412 := Aside0.mk (Kd.R_below (rP HO412) hb)
              replace HO415 := Aside0.mk (Kd.R_below (rP HO415) hb)
              replace BK380 := bB BK380 hb
              replace BK388 := bB BK388 hb
              replace BK395 := bB BK395 hb
              replace BK401 := bB BK401 hb
              replace BK408 := bB BK408 hb
              replace BK421 := bB BK421 hb
              replace HB := bS HB hb
              (try clear hb)
              refine hK.out _ _ (bS4 BK380 (bS4 BK388 (bS4 BK408 (bT4 BK421)))) (fun hHeld => ?_)
              clear hK K
              refine nO (some 70) ?_
              refine pI 3 (some 71) HT_.out ?_
              refine pI 4 (some 72) HT_.out ?_
              refine pI 7 (some 75) HT_.out ?_
              refine tI16 5 (some 73) HT_.out HW_.out hHeld ?_
              refine oI 6 (some 74) HT_.out (fun K hK => ?_)
              refine gO Tryd.func48 #[.agg #[.int .i64 t376, .string t377, .string t378, .string t379]] ?_
              with_reducible refine (impl_HeadOk.calls t376 t377 t378 t379 t423 _ A17.out).mono ?_
              rintro e w79 ⟨rfl, hb⟩
              refine ⟨_, rfl, ?_⟩
              replace HO412 := Aside0.mk (Kd.R_below (rP HO412) hb)
              replace HO415 := Aside0.mk (Kd.R_below (rP HO415) hb)
              replace BK380 := bB BK380 hb
              replace BK388 := bB BK388 hb
              replace BK395 := bB BK395 hb
              replace BK401 := bB BK401 hb
              replace BK408 := bB BK408 hb
              replace BK421 := bB BK421 hb
              replace HB := bS HB hb
              (try clear hb)
              obtain ⟨Ao80, co80, eo80⟩ := Kd.R_slice HO415.out
              (first | subst eo80 | (injection eo80 with f1_ f2_ f3_; have f4_ := f1_.symm; have f5_ := f3_.symm; clear f1_ f2_ f3_; subst f4_; subst f5_))
              refine hK.out _ _ (bS4 BK380 (bS4 BK388 (bS4 BK408 (bT4 BK421)))) (fun hHeld => ?_)
              clear hK K
              refine nO (some 74) ?_
              refine pI 8 (some 76) HT_.out ?_
              refine pI 9 (some 77) HT_.out ?_
              refine pI 10 (some 78) HT_.out ?_
              refine pI 11 (some 79) HT_.out ?_
              refine pI 12 (some 80) HT_.out ?_
              refine pI 13 (some 81) HT_.out ?_
              refine pI 14 (some 82) HT_.out ?_
              refine pI 15 (some 83) HT_.out ?_
              refine tI16 16 (some 84) HT_.out HW_.out hHeld ?_
              refine tI16 17 (some 85) HT_.out HW_.out hHeld ?_
              refine pI 18 (some 86) HT_.out ?_
              refine pI 19 (some 87) HT_.out ?_
              refine pI 20 (some 88) HT_.out ?_
              refine pI 21 (some 89) HT_.out ?_
              refine pI 22 (some 90) HT_.out ?_
              refine pI 23 (some 91) HT_.out ?_
              refine pI 24 (some 92) HT_.out ?_
              refine pI 25 (some 93) HT_.out ?_
              refine pI 26 (some 94) HT_.out ?_
              refine pI 27 (some 95) HT_.out ?_
              refine pI 28 (some 96) HT_.out ?_
              refine pI 29 (some 97) HT_.out ?_
              refine pI 30 (some 98) HT_.out ?_
              refine pI 31 (some 99) HT_.out ?_
              refine pI 32 (some 100) HT_.out ?_
              refine pI 33 (some 101) HT_.out ?_
              refine pI 34 (some 102) HT_.out ?_
              refine pI 35 (some 103) HT_.out ?_
              refine pI 36 (some 104) HT_.out ?_
              refine pI 37 (some 105) HT_.out ?_
              refine pI 38 (some 106) HT_.out ?_
              refine pI 39 (some 107) HT_.out ?_
              refine pI 40 (some 108) HT_.out ?_
              refine pI 41 (some 109) HT_.out ?_
              refine pI 42 (some 110) HT_.out ?_
              refine pI 43 (some 111) HT_.out ?_
              refine pI 44 (some 112) HT_.out ?_
              refine pI 45 (some 113) HT_.out ?_
              refine pI 46 (some 114) HT_.out ?_
              refine pI 47 (some 115) HT_.out ?_
              refine tI16 48 (some 116) HT_.out HW_.out hHeld ?_
              refine oI 49 (some 117) HT_.out (fun K hK => ?_)
              refine gO Tryd.func19 #[.agg #[.int .i64 t404, .string t405, .string t406, .string t407]] ?_
              with_reducible refine (spec_HeadRoot.calls k t404 t405 t406 t407 t424 _ A27.out).mono ?_
              rintro e w81 ⟨rfl, hb⟩
              refine ⟨_, rfl, ?_⟩
              replace HO412 := Aside0.mk (Kd.R_below (rP HO412) hb)
              replace HO415 := Aside0.mk (Kd.R_below (rP HO415) hb)
              replace BK380 := bB BK380 hb
              replace BK388 := bB BK388 hb
              replace BK395 := bB BK395 hb
              replace BK401 := bB BK401 hb
              replace BK408 := bB BK408 hb
              replace BK421 := bB BK421 hb
              replace HB := bS HB hb
              (try clear hb)
              refine hK.out _ _ (bS4 BK380 (bS4 BK388 (bS4 BK408 (bT4 BK421)))) (fun hHeld => ?_)
              clear hK K
              refine nO (some 117) ?_
              refine pI 50 (some 118) HT_.out ?_
              refine pI 51 (some 119) HT_.out ?_
              refine pI 52 (some 120) HT_.out ?_
              refine pI 54 (some 122) HT_.out ?_
              refine pI 57 (some 125) HT_.out ?_
              refine tI16 53 (some 121) HT_.out HW_.out hHeld ?_
              refine tI16 56 (some 124) HT_.out HW_.out hHeld ?_
              refine oI 55 (some 123) HT_.out (fun K hK => ?_)
              refine gO Tryd.func32 #[.agg #[.int .i64 t416, .string t417, .string t418, .string t419], .int .i64 t420] ?_
              with_reducible refine (impl_SigText.calls k t416 t417 t418 t419 t420 t425 _ (Kp.Tab.below HT.out (bZ HB)) A29.out).mono ?_
              rintro e w82 ⟨rfl, hb⟩
              refine ⟨_, rfl, ?_⟩
              replace HO412 := Aside0.mk (Kd.R_below (rP HO412) hb)
              replace HO415 := Aside0.mk (Kd.R_below (rP HO415) hb)
              replace BK380 := bB BK380 hb
              replace BK388 := bB BK388 hb
              replace BK395 := bB BK395 hb
              replace BK401 := bB BK401 hb
              replace BK408 := bB BK408 hb
              replace BK421 := bB BK421 hb
              replace HB := bS HB hb
              (try clear hb)
              refine hK.out _ _ (bS4 BK380 (bS4 BK388 (bS4 BK408 (bT4 BK421)))) (fun hHeld => ?_)
              clear hK K
              refine nO (some 123) ?_
              refine oI 58 (some 126) HT_.out (fun K hK => ?_)
              refine gO Tryd.func31 #[.agg #[.int .i64 t416, .string t417, .string t418, .string t419], .int .i64 t420] ?_
              with_reducible refine (spec_SigText.calls k t416 t417 t418 t419 t420 t426 _ A30.out).mono ?_
              rintro e w83 ⟨rfl, hb⟩
              refine ⟨_, rfl, ?_⟩
              replace HO412 := Aside0.mk (Kd.R_below (rP HO412) hb)
              replace HO415 := Aside0.mk (Kd.R_below (rP HO415) hb)
              replace BK380 := bB BK380 hb
              replace BK388 := bB BK388 hb
              replace BK395 := bB BK395 hb
              replace BK401 := bB BK401 hb
              replace BK408 := bB BK408 hb
              replace BK421 := bB BK421 hb
              replace HB := bS HB hb
              (try clear hb)
              refine hK.out _ _ (bS4 BK380 (bS4 BK388 (bS4 BK408 (bT4 BK421)))) (fun hHeld => ?_)
              clear hK K
              refine nO (some 126) ?_
              refine pI 59 (some 127) HT_.out ?_
              refine pI 60 (some 128) HT_.out ?_
              refine pI 61 (some 129) HT_.out ?_
              refine tI16 62 (some 130) HT_.out HW_.out hHeld ?_
              refine oI 63 (some 131) HT_.out (fun K hK => ?_)
              refine gO Tryd.func32 #[.agg #[.int .i64 t404, .string t405, .string t406, .string t407], .int .i64 7] ?_
              with_reducible refine (impl_SigText.calls k t404 t405 t406 t407 7 t427 _ (Kp.Tab.below HT.out (bZ HB)) A32.out).mono ?_
              rintro e w84 ⟨rfl, hb⟩
              refine ⟨_, rfl, ?_⟩
              replace HO412 := Aside0.mk (Kd.R_below (rP HO412) hb)
              replace HO415 := Aside0.mk (Kd.R_below (rP HO415) hb)
              replace BK380 := bB BK380 hb
              replace BK388 := bB BK388 hb
              replace BK395 := bB BK395 hb
              replace BK401 := bB BK401 hb
              replace BK408 := bB BK408 hb
              replace BK421 := bB BK421 hb
              replace HB := bS HB hb
              (try clear hb)
              refine hK.out _ _ (bS4 BK380 (bS4 BK388 (bS4 BK408 (bT4 BK421)))) (fun hHeld => ?_)
              clear hK K
              refine nO (some 131) ?_
              refine pI 64 (some 132) HT_.out ?_
              refine pI 65 (some 133) HT_.out ?_
              refine pI 66 (some 134) HT_.out ?_
              refine pI 67 (some 2) HT_.out ?_
              refine done_ (done_of HT_.out (by kernel_rfl)) ?_
              try go_wp2
              go_ret
              exact ⟨rR, bZ HB⟩
             ·rw [if_neg c31] at H
              have c31b0 : (t425.toList == t426.toList) = false := beq_eq_false_iff_ne.mpr c31
              have c31b1 : (t425.toList != t426.toList) = true := bne_iff_ne.mpr c31
              exact absurd (Option.some.inj H) (by rw [htrue.out]; exact Bool.false_ne_true)
            ·rw [if_neg c28] at H
             have c28b0 : (t409.toList == t424.toList) = false := beq_eq_false_iff_ne.mpr c28
             have c28b1 : (t409.toList != t424.toList) = true := bne_iff_ne.mpr c28
             exact absurd (Option.some.inj H) (by rw [htrue.out]; exact Bool.false_ne_true)
           ·rw [if_neg c26] at H
            have c26b0 : ((t409.size : Int) == 32) = false := beq_eq_false_iff_ne.mpr c26
            have c26b1 : ((t409.size : Int) != 32) = true := bne_iff_ne.mpr c26
            exact absurd (Option.some.inj H) (by rw [htrue.out]; exact Bool.false_ne_true)
          ·rw [if_neg c25] at H
           have c25b0 : ((t413.length : Int) == 2) = false := beq_eq_false_iff_ne.mpr c25
           have c25b1 : ((t413.length : Int) != 2) = true := bne_iff_ne.mpr c25
           exact absurd (Option.some.inj H) (by rw [htrue.out]; exact Bool.false_ne_true)
         ·rw [if_neg c24] at H
          have c24b0 : (t402.toList == t389.toList) = false := beq_eq_false_iff_ne.mpr c24
          have c24b1 : (t402.toList != t389.toList) = true := bne_iff_ne.mpr c24
          exact absurd (Option.some.inj H) (by rw [htrue.out]; exact Bool.false_ne_true)
        ·replace c23 := Bool.eq_false_iff.mpr c23
         subst c23
         rw [if_neg (show ¬ (false = true) by decide)] at H
         by_cases c85 : (t413.length : Int) = 2
         ·rw [if_pos c85] at H
          have c85b0 : ((t413.length : Int) == 2) = true := beq_iff_eq.mpr c85
          have c85b1 : ((t413.length : Int) != 2) = false := bne_eq_false_iff_eq.mpr c85
          clear c85
          by_cases c86 : (t409.size : Int) = 32
          ·rw [if_pos c86] at H
           have c86b0 : ((t409.size : Int) == 32) = true := beq_iff_eq.mpr c86
           have c86b1 : ((t409.size : Int) != 32) = false := bne_eq_false_iff_eq.mpr c86
           clear c86
           replace H := Option.bind_eq_some_iff.mp H
           obtain ⟨t428, A870, H⟩ := H
           have A87 := Aside0.mk A870
           clear A870
           by_cases c88 : t409.toList = t428.toList
           ·rw [if_pos c88] at H
            have c88b0 : (t409.toList == t428.toList) = true := beq_iff_eq.mpr c88
            have c88b1 : (t409.toList != t428.toList) = false := bne_eq_false_iff_eq.mpr c88
            clear c88
            replace H := Option.bind_eq_some_iff.mp H
            obtain ⟨t429, A890, H⟩ := H
            have A89 := Aside0.mk A890
            clear A890
            replace H := Option.bind_eq_some_iff.mp H
            obtain ⟨t430, A900, H⟩ := H
            have A90 := Aside0.mk A900
            clear A900
            by_cases c91 : t429.toList = t430.toList
            ·rw [if_pos c91] at H
             have c91b0 : (t429.toList == t430.toList) = true := beq_iff_eq.mpr c91
             have c91b1 : (t429.toList != t430.toList) = false := bne_eq_false_iff_eq.mpr c91
             clear c91
             replace H := Option.bind_eq_some_iff.mp H
             obtain ⟨t431, A920, H⟩ := H
             have A92 := Aside0.mk A920
             clear A920
             obtain rfl := Option.some.inj H
             go_enter Tryd.func10, Tryd.ntmps10
             try go_wp2_with (first | ((with_reducible refine gate_callee (f := 26) rfl ?_); refine gL (some 21) Tryd.func26 #[.slice A0 l0.length c0] ?_; (with_reducible refine (laws_big.calls _ _ l0 false _ ?side1 ?side2 A2.out).mono ?_); (case side1 => exact cP HR0.out); (case side2 => exact HC0.out); rintro e w' ⟨rfl, ⟨nd, rfl⟩⟩; refine ⟨_, rfl, ?_⟩) | ((with_reducible refine gate_callee (f := 40) rfl ?_); refine gL (some 23) Tryd.func40 #[.slice A0 l0.length c0] ?_; (with_reducible refine (spec_DrawHeadText.calls k _ _ l0 t376 t377 t378 t379 _ ?side1 ?side2 A4.out).mono ?_); (case side1 => exact cP HR0.out); (case side2 => exact HC0.out); rintro e w93 ⟨rfl, hb⟩; refine ⟨_, rfl, ?_⟩; replace HB := bS HB hb; (try clear hb)) | ((with_reducible refine gate_dst (N := 3) rfl ?_); (try (refine gate_guard (by rfl) ?_; dsimp only)); refine box_event ?hg (N := 3) ?hd (cs := #[.int .i64 0, .string (⟨#[]⟩ : ByteArray), .string (⟨#[]⟩ : ByteArray), .string (⟨#[]⟩ : ByteArray)]) (t := 34) ?hr ?_; (case hd => rfl); (case hg => rfl); (case hr => first | (go_simp; done) | (go_simp; rfl)); intro gb380 hg w94 hbox hb; have BK380 := Aside0.mk (hbox); have GW380 := bG HB hg; have GE380 := bG HB hg; replace HB := bS HB hb; clear hb hbox hg; obtain ⟨hcz95_0, hcz95_1, hcz95_2, hcz95_3, hfz95_0, hfz95_1, hfz95_2, hfz95_3⟩ := bK4 (w := w94) BK380) | ((with_reducible refine gate_callee (f := 41) rfl ?_); refine gL (some 26) Tryd.func41 #[.agg #[.int .i64 t376, .string t377, .string t378, .string t379]] ?_; (with_reducible refine (impl_HeadText.calls k t376 t377 t378 t379 t381 true _ A5.out).mono ?_); rintro e w96 ⟨rfl, hb⟩; refine ⟨_, rfl, ?_⟩; replace BK380 := bV 34 #[.int .i64 t376, .string t377, .string t378, .string t379] BK380 hb; replace HB := bS HB hb; (try clear hb)) | ((with_reducible refine gate_callee (f := 42) rfl ?_); refine gL (some 31) Tryd.func42 #[.string t381] ?_; (with_reducible refine (impl_ReadHead.calls k t381 t383 t384 t385 t386 true _ A6.out).mono ?_); rintro e w97 ⟨rfl, hb⟩; refine ⟨_, rfl, ?_⟩; replace BK380 := bB BK380 hb; replace HB := bS HB hb; (try clear hb)) | ((with_reducible refine gate_dst (N := 6) rfl ?_); (try (refine gate_guard (by rfl) ?_; dsimp only)); refine box_event ?hg (N := 6) ?hd (cs := #[.int .i64 0, .string (⟨#[]⟩ : ByteArray), .string (⟨#[]⟩ : ByteArray), .string (⟨#[]⟩ : ByteArray)]) (t := 34) ?hr ?_; (case hd => rfl); (case hg => rfl); (case hr => first | (go_simp; done) | (go_simp; rfl)); intro gb388 hg w98 hbox hb; have BK388 := Aside0.mk (hbox); have GW388 := bG HB hg; have GE388 := bG HB hg; replace HB := bS HB hb; have NB380_388 := bL BK380 hg; have NB388_380 := bR BK380 hg; replace BK380 := bB BK380 hb; clear hb hbox hg; obtain ⟨hnb99, hnc99⟩ := nB NB388_380; obtain ⟨hcz100_0, hcz100_1, hcz100_2, hcz100_3, hfz100_0, hfz100_1, hfz100_2, hfz100_3⟩ := bK4 (w := w98) BK388) | ((with_reducible refine gate_callee (f := 43) rfl ?_); refine gL (some 35) Tryd.func43 #[.slice A0 l0.length c0] ?_; (with_reducible refine (spec_DrawReadHead.calls k _ _ l0 t389 _ ?side1 ?side2 A7.out).mono ?_); (case side1 => exact Kd.C_below HR0.out (bZ HB)); (case side2 => exact HC0.out); rintro e w101 ⟨rfl, hb⟩; refine ⟨_, rfl, ?_⟩; replace BK380 := bB BK380 hb; replace BK388 := bV 34 #[.int .i64 t383, .string t384, .string t385, .string t386] BK388 hb; replace HB := bS HB hb; (try clear hb)) | ((with_reducible refine gate_callee (f := 42) rfl ?_); refine gL (some 38) Tryd.func42 #[.string t389] ?_; (with_reducible refine (impl_ReadHead.calls k t389 t390 t391 t392 t393 false _ A8.out).mono ?_); rintro e w102 ⟨rfl, hb⟩; refine ⟨_, rfl, ?_⟩; replace BK380 := bB BK380 hb; replace BK388 := bB BK388 hb; replace HB := bS HB hb; (try clear hb)) | ((with_reducible refine gate_dst (N := 9) rfl ?_); (try (refine gate_guard (by rfl) ?_; dsimp only)); refine box_event ?hg (N := 9) ?hd (cs := #[.int .i64 0, .string (⟨#[]⟩ : ByteArray), .string (⟨#[]⟩ : ByteArray), .string (⟨#[]⟩ : ByteArray)]) (t := 34) ?hr ?_; (case hd => rfl); (case hg => rfl); (case hr => first | (go_simp; done) | (go_simp; rfl)); intro gb395 hg w103 hbox hb; have BK395 := Aside0.mk (hbox); have GW395 := bG HB hg; have GE395 := bG HB hg; replace HB := bS HB hb; have NB380_395 := bL BK380 hg; have NB395_380 := bR BK380 hg; replace BK380 := bB BK380 hb; have NB388_395 := bL BK388 hg; have NB395_388 := bR BK388 hg; replace BK388 := bB BK388 hb; clear hb hbox hg; obtain ⟨hnb104, hnc104⟩ := nB NB395_380; obtain ⟨hnb105, hnc105⟩ := nB NB395_388; obtain ⟨hcz106_0, hcz106_1, hcz106_2, hcz106_3, hfz106_0, hfz106_1, hfz106_2, hfz106_3⟩ := bK4 (w := w103) BK395) | ((with_reducible refine gate_callee (f := 44) rfl ?_); refine gL (some 43) Tryd.func44 #[.string t389] ?_; (with_reducible refine (spec_ReadHead.calls k t389 t396 t397 t398 t399 t400 _ A9.out).mono ?_); rintro e w107 ⟨rfl, hb⟩; refine ⟨_, rfl, ?_⟩; replace BK380 := bB BK380 hb; replace BK388 := bB BK388 hb; replace BK395 := bV 34 #[.int .i64 t390, .string t391, .string t392, .string t393] BK395 hb; replace HB := bS HB hb; (try clear hb)) | ((with_reducible refine gate_dst (N := 11) rfl ?_); (try (refine gate_guard (by rfl) ?_; dsimp only)); refine box_event ?hg (N := 11) ?hd (cs := #[.int .i64 0, .string (⟨#[]⟩ : ByteArray), .string (⟨#[]⟩ : ByteArray), .string (⟨#[]⟩ : ByteArray)]) (t := 34) ?hr ?_; (case hd => rfl); (case hg => rfl); (case hr => first | (go_simp; done) | (go_simp; rfl)); intro gb401 hg w108 hbox hb; have BK401 := Aside0.mk (hbox); have GW401 := bG HB hg; have GE401 := bG HB hg; replace HB := bS HB hb; have NB380_401 := bL BK380 hg; have NB401_380 := bR BK380 hg; replace BK380 := bB BK380 hb; have NB388_401 := bL BK388 hg; have NB401_388 := bR BK388 hg; replace BK388 := bB BK388 hb; have NB395_401 := bL BK395 hg; have NB401_395 := bR BK395 hg; replace BK395 := bB BK395 hb; clear hb hbox hg; obtain ⟨hnb109, hnc109⟩ := nB NB401_380; obtain ⟨hnb110, hnc110⟩ := nB NB401_388; obtain ⟨hnb111, hnc111⟩ := nB NB401_395; obtain ⟨hcz112_0, hcz112_1, hcz112_2, hcz112_3, hfz112_0, hfz112_1, hfz112_2, hfz112_3⟩ := bK4 (w := w108) BK401; obtain ⟨hcz113_0, hcz113_1, hcz113_2, hcz113_3, hfz113_0, hfz113_1, hfz113_2, hfz113_3⟩ := bK4 (w := w108) BK395) | ((with_reducible refine gate_callee (f := 41) rfl ?_); refine gL (some 48) Tryd.func41 #[.agg #[.int .i64 t390, .string t391, .string t392, .string t393]] ?_; (with_reducible refine (impl_HeadText.calls k t390 t391 t392 t393 t402 t403 _ A10.out).mono ?_); rintro e w114 ⟨rfl, hb⟩; refine ⟨_, rfl, ?_⟩; replace BK380 := bB BK380 hb; replace BK388 := bB BK388 hb; replace BK395 := bB BK395 hb; replace BK401 := bV 34 #[.int .i64 t396, .string t397, .string t398, .string t399] BK401 hb; replace HB := bS HB hb; (try clear hb)) | ((with_reducible refine gate_callee (f := 45) rfl ?_); refine gL (some 52) Tryd.func45 #[.slice A0 l0.length c0] ?_; (with_reducible refine (spec_DrawHead.calls k _ _ l0 t404 t405 t406 t407 _ ?side1 ?side2 A11.out).mono ?_); (case side1 => exact cP (Kd.C_below HR0.out HB.out)); (case side2 => exact HC0.out); rintro e w115 ⟨rfl, hb⟩; refine ⟨_, rfl, ?_⟩; replace BK380 := bB BK380 hb; replace BK388 := bB BK388 hb; replace BK395 := bB BK395 hb; replace BK401 := bB BK401 hb; replace HB := bS HB hb; (try clear hb)) | ((with_reducible refine gate_dst (N := 15) rfl ?_); (try (refine gate_guard (by rfl) ?_; dsimp only)); refine box_event ?hg (N := 15) ?hd (cs := #[.int .i64 0, .string (⟨#[]⟩ : ByteArray), .string (⟨#[]⟩ : ByteArray), .string (⟨#[]⟩ : ByteArray)]) (t := 34) ?hr ?_; (case hd => rfl); (case hg => rfl); (case hr => first | (go_simp; done) | (go_simp; rfl)); intro gb408 hg w116 hbox hb; have BK408 := Aside0.mk (hbox); have GW408 := bG HB hg; have GE408 := bG HB hg; replace HB := bS HB hb; have NB380_408 := bL BK380 hg; have NB408_380 := bR BK380 hg; replace BK380 := bB BK380 hb; have NB388_408 := bL BK388 hg; have NB408_388 := bR BK388 hg; replace BK388 := bB BK388 hb; have NB395_408 := bL BK395 hg; have NB408_395 := bR BK395 hg; replace BK395 := bB BK395 hb; have NB401_408 := bL BK401 hg; have NB408_401 := bR BK401 hg; replace BK401 := bB BK401 hb; clear hb hbox hg; obtain ⟨hnb117, hnc117⟩ := nB NB408_380; obtain ⟨hnb118, hnc118⟩ := nB NB408_388; obtain ⟨hnb119, hnc119⟩ := nB NB408_395; obtain ⟨hnb120, hnc120⟩ := nB NB408_401; obtain ⟨hcz121_0, hcz121_1, hcz121_2, hcz121_3, hfz121_0, hfz121_1, hfz121_2, hfz121_3⟩ := bK4 (w := w116) BK408) | ((with_reducible refine gate_callee (f := 21) rfl ?_); refine gL (some 54) Tryd.func21 #[.agg #[.int .i64 t404, .string t405, .string t406, .string t407]] ?_; (with_reducible refine (impl_HeadRoot.calls k t404 t405 t406 t407 t409 _ (Kp.Tab.below HT.out (bZ HB)) A12.out).mono ?_); rintro e w122 ⟨rfl, hb⟩; refine ⟨_, rfl, ?_⟩; replace BK380 := bB BK380 hb; replace BK388 := bB BK388 hb; replace BK395 := bB BK395 hb; replace BK401 := bB BK401 hb; replace BK408 := bV 34 #[.int .i64 t404, .string t405, .string t406, .string t407] BK408 hb; replace HB := bS HB hb; (try clear hb); obtain ⟨hcz123_0, hcz123_1, hcz123_2, hcz123_3, hfz123_0, hfz123_1, hfz123_2, hfz123_3⟩ := bK4 (w := w122) BK408) | ((with_reducible refine gate_dst (N := 61) rfl ?_); (try (refine gate_guard (by rfl) ?_; dsimp only)); refine Kd.R_lit Kd.string _ 9 ?hg (N := 61) ?hd (xs := ([(⟨#[]⟩ : ByteArray), t405, t406, t407] : List ByteArray)) (inner := [.string (⟨#[]⟩ : ByteArray), .string t405, .string t406, .string t407]) (ok := fun _ => True) (okp := fun _ => True) ?hr ?hp (fun _ hk => hk) trivial (Below.refl _ _) (Nat.le_refl _) (by simp) ?_; (case hd => rfl); (case hg => rfl); (case hr => first | (go_simp; done) | (go_simp; rfl)); (case hp => exact (Reps.one (show Kd.M Kd.string _ _ _ (⟨#[]⟩ : ByteArray) [.string (⟨#[]⟩ : ByteArray)] from rfl) (Reps.one (show Kd.M Kd.string _ _ _ t405 [.string t405] from rfl) (Reps.one (show Kd.M Kd.string _ _ _ t406 [.string t406] from rfl) (Reps.one (show Kd.M Kd.string _ _ _ t407 [.string t407] from rfl) (Reps.none _ _)))))); intro v411 w124 ho125 hb hg_ hnew_; clear hg_ hnew_; (first | rw [← Ny410.out] at ho125 | (simp only [Int.reduceToNat] at ho125; rw [← Ny410.out] at ho125)); have HO412 := Aside0.mk (Kd.R_lower ho125 (below_size (bZ HB))); replace BK380 := bB BK380 hb; replace BK388 := bB BK388 hb; replace BK395 := bB BK395 hb; replace BK401 := bB BK401 hb; replace BK408 := bB BK408 hb; replace HB := bS HB hb; clear hb ho125; obtain ⟨Ao126, co126, eo126⟩ := Kd.R_slice HO412.out; subst eo126) | ((with_reducible refine gate_callee (f := 22) rfl ?_); refine gL (some 62) Tryd.func22 #[.slice Ao126 y410.length co126, .int .i64 2] ?_; (with_reducible refine (spec_BranchOf.calls k _ _ y410 2 t413 _ ?side1 ?side2 A13.out).mono ?_); (case side1 => exact cP ((Kd.R_reads' HO412.out).2.2)); (case side2 => exact (Kd.R_reads' HO412.out).2.1); rintro e w127 ⟨v414, rfl, ho0, hb⟩; refine ⟨_, rfl, ?_⟩; have HO415 := Aside0.mk (Kd.R_lower (Kd.R_new' ho0 (Kd.R_lt (rP HO412))) (below_size (bZ HB))); replace HO412 := Aside0.mk (Kd.R_elder' (rP HO412) (Kd.R_base ho0) hb); replace BK380 := bB BK380 hb; replace BK388 := bB BK388 hb; replace BK395 := bB BK395 hb; replace BK401 := bB BK401 hb; replace BK408 := bB BK408 hb; replace HB := bS HB hb; (try clear hb); (try clear ho0)) | ((with_reducible refine gate_callee (f := 46) rfl ?_); refine gL (some 65) Tryd.func46 #[.slice A0 l0.length c0] ?_; (with_reducible refine (spec_DrawSigText.calls k _ _ l0 t416 t417 t418 t419 t420 _ ?side1 ?side2 A14.out).mono ?_); (case side1 => exact cP (Kd.C_below HR0.out HB.out)); (case side2 => exact HC0.out); rintro e w128 ⟨rfl, hb⟩; refine ⟨_, rfl, ?_⟩; replace HO412 := Aside0.mk (Kd.R_below (rP HO412) hb); replace HO415 := Aside0.mk (Kd.R_below (rP HO415) hb); replace BK380 := bB BK380 hb; replace BK388 := bB BK388 hb; replace BK395 := bB BK395 hb; replace BK401 := bB BK401 hb; replace BK408 := bB BK408 hb; replace HB := bS HB hb; (try clear hb)) | ((with_reducible refine gate_dst (N := 18) rfl ?_); (try (refine gate_guard (by rfl) ?_; dsimp only)); refine box_event ?hg (N := 18) ?hd (cs := #[.int .i64 0, .string (⟨#[]⟩ : ByteArray), .string (⟨#[]⟩ : ByteArray), .string (⟨#[]⟩ : ByteArray)]) (t := 34) ?hr ?_; (case hd => rfl); (case hg => rfl); (case hr => first | (go_simp; done) | (go_simp; rfl)); intro gb421 hg w129 hbox hb; replace HO412 := Aside0.mk (Kd.R_below (rP HO412) hb); replace HO415 := Aside0.mk (Kd.R_below (rP HO415) hb); have BK421 := Aside0.mk (hbox); have GW421 := bG HB hg; have GE421 := bG HB hg; replace HB := bS HB hb; have NB380_421 := bL BK380 hg; have NB421_380 := bR BK380 hg; replace BK380 := bB BK380 hb; have NB388_421 := bL BK388 hg; have NB421_388 := bR BK388 hg; replace BK388 := bB BK388 hb; have NB395_421 := bL BK395 hg; have NB421_395 := bR BK395 hg; replace BK395 := bB BK395 hb; have NB401_421 := bL BK401 hg; have NB421_401 := bR BK401 hg; replace BK401 := bB BK401 hb; have NB408_421 := bL BK408 hg; have NB421_408 := bR BK408 hg; replace BK408 := bB BK408 hb; clear hb hbox hg; obtain ⟨hnb130, hnc130⟩ := nB NB421_380; obtain ⟨hnb131, hnc131⟩ := nB NB421_388; obtain ⟨hnb132, hnc132⟩ := nB NB421_395; obtain ⟨hnb133, hnc133⟩ := nB NB421_401; obtain ⟨hnb134, hnc134⟩ := nB NB421_408; obtain ⟨hcz135_0, hcz135_1, hcz135_2, hcz135_3, hfz135_0, hfz135_1, hfz135_2, hfz135_3⟩ := bK4 (w := w129) BK421))
             obtain ⟨w136, hW_⟩ : ∃ W_ : World, W_ = ((((w129.setCell ⟨gb421, 0, none⟩ (.int .i64 t416)).setCell ⟨gb421, 1, none⟩ (.string t417)).setCell ⟨gb421, 2, none⟩ (.string t418)).setCell ⟨gb421, 3, none⟩ (.string t419)) := ⟨_, rfl⟩
             have n0_ : Aside0 (Kd.R Kd.string 9 ((((w129.setCell ⟨gb421, 0, none⟩ (.int .i64 t416)).setCell ⟨gb421, 1, none⟩ (.string t417)).setCell ⟨gb421, 2, none⟩ (.string t418)).setCell ⟨gb421, 3, none⟩ (.string t419)) w.heap.size (fun k_ => some k_ ≠ (v414 : Value).ownBlock) (.slice Ao126 y410.length co126) y410) := ⟨by (with_reducible repeat (first | apply Kd.R_alloc | apply Kd.R_drewN | apply Kd.R_drew)); exact Kd.R_mono (Kd.R_far (p := ⟨gb421, 3, none⟩) (Kd.R_far (p := ⟨gb421, 2, none⟩) (Kd.R_far (p := ⟨gb421, 1, none⟩) (Kd.R_far (p := ⟨gb421, 0, none⟩) (Kd.R_types HO412.out BK421.out (by decide)) (fun _ hk => hk.2) (.int .i64 t416)) (fun _ hk => hk.2) (.string t417)) (fun _ hk => hk.2) (.string t418)) (fun _ hk => hk.2) (.string t419)) (fun _ hk => hk.1.2)⟩
             rw [← hW_] at n0_
             have n1_ : Aside0 (Kd.R Kd.string 9 ((((w129.setCell ⟨gb421, 0, none⟩ (.int .i64 t416)).setCell ⟨gb421, 1, none⟩ (.string t417)).setCell ⟨gb421, 2, none⟩ (.string t418)).setCell ⟨gb421, 3, none⟩ (.string t419)) w.heap.size (fun k_ => some k_ ≠ (.slice Ao126 y410.length co126 : Value).ownBlock) v414 t413) := ⟨by (with_reducible repeat (first | apply Kd.R_alloc | apply Kd.R_drewN | apply Kd.R_drew)); exact Kd.R_mono (Kd.R_far (p := ⟨gb421, 3, none⟩) (Kd.R_far (p := ⟨gb421, 2, none⟩) (Kd.R_far (p := ⟨gb421, 1, none⟩) (Kd.R_far (p := ⟨gb421, 0, none⟩) (Kd.R_types HO415.out BK421.out (by decide)) (fun _ hk => hk.2) (.int .i64 t416)) (fun _ hk => hk.2) (.string t417)) (fun _ hk => hk.2) (.string t418)) (fun _ hk => hk.2) (.string t419)) (fun _ hk => hk.1.2)⟩
             rw [← hW_] at n1_
             replace BK380 := bW hW_ BK380
             replace BK388 := bW hW_ BK388
             replace BK395 := bW hW_ BK395
             replace BK401 := bW hW_ BK401
             replace BK408 := bW hW_ BK408
             replace BK421 := bX hW_ 34 #[.int .i64 t416, .string t417, .string t418, .string t419] BK421
             (try clear HO412)
             (try clear HO415)
             have HO412 := n0_
             clear n0_
             have HO415 := n1_
             clear n1_
             replace HB := zW hW_ HB
             rw [← hW_]
             clear hW_
             replace HO412 := Aside0.mk (Kd.R_drew HO412.out)
             replace HO415 := Aside0.mk (Kd.R_drew HO415.out)
             replace BK380 := Aside0.mk (blk_drew BK380.out)
             replace BK388 := Aside0.mk (blk_drew BK388.out)
             replace BK395 := Aside0.mk (blk_drew BK395.out)
             replace BK401 := Aside0.mk (blk_drew BK401.out)
             replace BK408 := Aside0.mk (blk_drew BK408.out)
             replace BK421 := Aside0.mk (blk_drew BK421.out)
             replace HB := Aside0.mk (below_drew1 HB.out)
             refine start_ (n := 68) (S := fun w' => SP4 w' gb380 (.int .i64 t376) (.string t377) (.string t378) (.string t379) (SP4 w' gb388 (.int .i64 t383) (.string t384) (.string t385) (.string t386) (SP4 w' gb408 (.int .i64 t404) (.string t405) (.string t406) (.string t407) (SQ4 w' gb421 (.int .i64 t416) (.string t417) (.string t418) (.string t419))))) (ds := []) #[false, false, false, false, false, false, false, false, false, false, false, false, false, false, false, false, false, false, false, false, false, false, false, false, false, false, false, false, false, false, false, false, false, false, false, false, false, false, false, false, false, false, false, false, false, false, false, false, false, false, false, false, false, false, false, false, false, false, false, false, false, false, false, false, false, false, false, false] (by kernel_rfl) rfl rfl (bS4 BK380 (bS4 BK388 (bS4 BK408 (bT4 BK421)))) (fun hHeld => ?_); refine with_tabW laws_FnHeads.tab14 laws_FnHeads.bits14 (fun HT_ HW_ => ?_)
             generalize w136.drew = w137 at HO412 HO415 BK380 BK388 BK395 BK401 BK408 BK421 HB hHeld ⊢
             refine pI 0 (some 68) HT_.out ?_
             refine tI16 1 (some 69) HT_.out HW_.out hHeld ?_
             refine oI 2 (some 70) HT_.out (fun K hK => ?_)
             refine gO Tryd.func47 #[.agg #[.int .i64 t376, .string t377, .string t378, .string t379]] ?_
             with_reducible refine (spec_HeadOk.calls t376 t377 t378 t379 t422 _ A15.out).mono ?_
             rintro e w138 ⟨rfl, hb⟩
             refine ⟨_, rfl, ?_⟩
             replace HO412 := Aside0.mk (Kd.R_below (rP HO412) hb)
             replace HO415 := Aside0.mk (Kd.R_below (rP HO415) hb)
             replace BK380 := bB BK380 hb
             replace BK388 := bB BK388 hb
             replace BK395 := bB BK395 hb
             replace BK401 := bB BK401 hb
             replace BK408 := bB BK408 hb
             replace BK421 := bB BK421 hb
             replace HB := bS HB hb
             (try clear hb)
             refine hK.out _ _ (bS4 BK380 (bS4 BK388 (bS4 BK408 (bT4 BK421)))) (fun hHeld => ?_)
             clear hK K
             refine nO (some 70) ?_
             refine pI 3 (some 71) HT_.out ?_
             refine pI 4 (some 72) HT_.out ?_
             refine pI 7 (some 75) HT_.out ?_
             refine tI16 5 (some 73) HT_.out HW_.out hHeld ?_
             refine oI 6 (some 74) HT_.out (fun K hK => ?_)
             refine gO Tryd.func48 #[.agg #[.int .i64 t376, .string t377, .string t378, .string t379]] ?_
             with_reducible refine (impl_HeadOk.calls t376 t377 t378 t379 t423 _ A17.out).mono ?_
             rintro e w139 ⟨rfl, hb⟩
             refine ⟨_, rfl, ?_⟩
             replace HO412 := Aside0.mk (Kd.R_below (rP HO412) hb)
             replace HO415 := Aside0.mk (Kd.R_below (rP HO415) hb)
             replace BK380 := bB BK380 hb
             replace BK388 := bB BK388 hb
             replace BK395 := bB BK395 hb
             replace BK401 := bB BK401 hb
             replace BK408 := bB BK408 hb
             replace BK421 := bB BK421 hb
             replace HB := bS HB hb
             (try clear hb)
             obtain ⟨Ao140, co140, eo140⟩ := Kd.R_slice HO415.out
             (first | subst eo140 | (injection eo140 with f1_ f2_ f3_; have f4_ := f1_.symm; have f5_ := f3_.symm; clear f1_ f2_ f3_; subst f4_; subst f5_))
             refine hK.out _ _ (bS4 BK380 (bS4 BK388 (bS4 BK408 (bT4 BK421)))) (fun hHeld => ?_)
             clear hK K
             refine nO (some 74) ?_
             refine pI 8 (some 76) HT_.out ?_
             refine pI 9 (some 77) HT_.out ?_
             refine pI 10 (some 78) HT_.out ?_
             refine pI 11 (some 79) HT_.out ?_
             refine pI 12 (some 80) HT_.out ?_
             refine pI 13 (some 81) HT_.out ?_
             refine pI 14 (some 82) HT_.out ?_
             refine pI 15 (some 83) HT_.out ?_
             refine tI16 16 (some 84) HT_.out HW_.out hHeld ?_
             refine tI16 17 (some 85) HT_.out HW_.out hHeld ?_
             refine pI 18 (some 86) HT_.out ?_
             refine pI 19 (some 87) HT_.out ?_
             refine pI 20 (some 88) HT_.out ?_
             refine pI 21 (some 89) HT_.out ?_
             refine pI 22 (some 90) HT_.out ?_
             refine pI 23 (some 91) HT_.out ?_
             refine pI 24 (some 92) HT_.out ?_
             refine pI 25 (some 93) HT_.out ?_
             refine pI 26 (some 94) HT_.out ?_
             refine pI 27 (some 95) HT_.out ?_
             refine pI 28 (some 96) HT_.out ?_
             refine pI 29 (some 97) HT_.out ?_
             refine pI 30 (some 98) HT_.out ?_
             refine pure_ (i := 31) (N := some 99) (v := undef) (a' := ?_) #[true, true, true, true, true, true, true, true, true, true, true, true, true, true, true, true, true, true, true, true, true, true, true, true, true, true, true, true, true, true, true, true, false, false, false, false, false, false, false, false, false, false, false, false, false, false, false, false, false, false, false, false, false, false, false, false, false, false, false, false, false, false, false, false, false, false, false, false] rfl rfl (any_of HT_.out (by kernel_rfl)) (fun _ _ _ h => h) (Or.inr ⟨by rfl, rfl⟩) ?_ ?_
             rotate_left
             ·simp only [Act.put, List.setIfInBounds_toArray, List.set_cons_zero, List.set_cons_succ, i64_w, i32_w]
              rfl
             refine pure_ (i := 32) (N := some 100) (v := undef) (a' := ?_) #[true, true, true, true, true, true, true, true, true, true, true, true, true, true, true, true, true, true, true, true, true, true, true, true, true, true, true, true, true, true, true, true, true, false, false, false, false, false, false, false, false, false, false, false, false, false, false, false, false, false, false, false, false, false, false, false, false, false, false, false, false, false, false, false, false, false, false, false] rfl rfl (any_of HT_.out (by kernel_rfl)) (fun _ _ _ h => h) (Or.inr ⟨by rfl, rfl⟩) ?_ ?_
             rotate_left
             ·simp only [Act.put, List.setIfInBounds_toArray, List.set_cons_zero, List.set_cons_succ, i64_w, i32_w]
              rfl
             refine pure_ (i := 33) (N := some 101) (v := undef) (a' := ?_) #[true, true, true, true, true, true, true, true, true, true, true, true, true, true, true, true, true, true, true, true, true, true, true, true, true, true, true, true, true, true, true, true, true, true, false, false, false, false, false, false, false, false, false, false, false, false, false, false, false, false, false, false, false, false, false, false, false, false, false, false, false, false, false, false, false, false, false, false] rfl rfl (any_of HT_.out (by kernel_rfl)) (fun _ _ _ h => h) (Or.inr ⟨by rfl, rfl⟩) ?_ ?_
             rotate_left
             ·simp only [Act.put, List.setIfInBounds_toArray, List.set_cons_zero, List.set_cons_succ, i64_w, i32_w]
              rfl
             refine pI 34 (some 102) HT_.out ?_
             refine pI 35 (some 103) HT_.out ?_
             refine pI 36 (some 104) HT_.out ?_
             refine pI 37 (some 105) HT_.out ?_
             refine pI 38 (some 106) HT_.out ?_
             refine pI 39 (some 107) HT_.out ?_
             refine pI 40 (some 108) HT_.out ?_
             refine pI 41 (some 109) HT_.out ?_
             refine pI 42 (some 110) HT_.out ?_
             refine pI 43 (some 111) HT_.out ?_
             refine pI 44 (some 112) HT_.out ?_
             refine pI 45 (some 113) HT_.out ?_
             refine pI 46 (some 114) HT_.out ?_
             refine pI 47 (some 115) HT_.out ?_
             refine tI16 48 (some 116) HT_.out HW_.out hHeld ?_
             refine oI 49 (some 117) HT_.out (fun K hK => ?_)
             refine gO Tryd.func19 #[.agg #[.int .i64 t404, .string t405, .string t406, .string t407]] ?_
             with_reducible refine (spec_HeadRoot.calls k t404 t405 t406 t407 t428 _ A87.out).mono ?_
             rintro e w141 ⟨rfl, hb⟩
             refine ⟨_, rfl, ?_⟩
             replace HO412 := Aside0.mk (Kd.R_below (rP HO412) hb)
             replace HO415 := Aside0.mk (Kd.R_below (rP HO415) hb)
             replace BK380 := bB BK380 hb
             replace BK388 := bB BK388 hb
             replace BK395 := bB BK395 hb
             replace BK401 := bB BK401 hb
             replace BK408 := bB BK408 hb
             replace BK421 := bB BK421 hb
             replace HB := bS HB hb
             (try clear hb)
             refine hK.out _ _ (bS4 BK380 (bS4 BK388 (bS4 BK408 (bT4 BK421)))) (fun hHeld => ?_)
             clear hK K
             refine nO (some 117) ?_
             refine pI 50 (some 118) HT_.out ?_
             refine pI 51 (some 119) HT_.out ?_
             refine pI 52 (some 120) HT_.out ?_
             refine pI 54 (some 122) HT_.out ?_
             refine pI 57 (some 125) HT_.out ?_
             refine tI16 53 (some 121) HT_.out HW_.out hHeld ?_
             refine tI16 56 (some 124) HT_.out HW_.out hHeld ?_
             refine oI 55 (some 123) HT_.out (fun K hK => ?_)
             refine gO Tryd.func32 #[.agg #[.int .i64 t416, .string t417, .string t418, .string t419], .int .i64 t420] ?_
             with_reducible refine (impl_SigText.calls k t416 t417 t418 t419 t420 t429 _ (Kp.Tab.below HT.out (bZ HB)) A89.out).mono ?_
             rintro e w142 ⟨rfl, hb⟩
             refine ⟨_, rfl, ?_⟩
             replace HO412 := Aside0.mk (Kd.R_below (rP HO412) hb)
             replace HO415 := Aside0.mk (Kd.R_below (rP HO415) hb)
             replace BK380 := bB BK380 hb
             replace BK388 := bB BK388 hb
             replace BK395 := bB BK395 hb
             replace BK401 := bB BK401 hb
             replace BK408 := bB BK408 hb
             replace BK421 := bB BK421 hb
             replace HB := bS HB hb
             (try clear hb)
             refine hK.out _ _ (bS4 BK380 (bS4 BK388 (bS4 BK408 (bT4 BK421)))) (fun hHeld => ?_)
             clear hK K
             refine nO (some 123) ?_
             refine oI 58 (some 126) HT_.out (fun K hK => ?_)
             refine gO Tryd.func31 #[.agg #[.int .i64 t416, .string t417, .string t418, .string t419], .int .i64 t420] ?_
             with_reducible refine (spec_SigText.calls k t416 t417 t418 t419 t420 t430 _ A90.out).mono ?_
             rintro e w143 ⟨rfl, hb⟩
             refine ⟨_, rfl, ?_⟩
             replace HO412 := Aside0.mk (Kd.R_below (rP HO412) hb)
             replace HO415 := Aside0.mk (Kd.R_below (rP HO415) hb)
             replace BK380 := bB BK380 hb
             replace BK388 := bB BK388 hb
             replace BK395 := bB BK395 hb
             replace BK401 := bB BK401 hb
             replace BK408 := bB BK408 hb
             replace BK421 := bB BK421 hb
             replace HB := bS HB hb
             (try clear hb)
             refine hK.out _ _ (bS4 BK380 (bS4 BK388 (bS4 BK408 (bT4 BK421)))) (fun hHeld => ?_)
             clear hK K
             refine nO (some 126) ?_
             refine pI 59 (some 127) HT_.out ?_
             refine pI 60 (some 128) HT_.out ?_
             refine pI 61 (some 129) HT_.out ?_
             refine tI16 62 (some 130) HT_.out HW_.out hHeld ?_
             refine oI 63 (some 131) HT_.out (fun K hK => ?_)
             refine gO Tryd.func32 #[.agg #[.int .i64 t404, .string t405, .string t406, .string t407], .int .i64 7] ?_
             with_reducible refine (impl_SigText.calls k t404 t405 t406 t407 7 t431 _ (Kp.Tab.below HT.out (bZ HB)) A92.out).mono ?_
             rintro e w144 ⟨rfl, hb⟩
             refine ⟨_, rfl, ?_⟩
             replace HO412 := Aside0.mk (Kd.R_below (rP HO412) hb)
             replace HO415 := Aside0.mk (Kd.R_below (rP HO415) hb)
             replace BK380 := bB BK380 hb
             replace BK388 := bB BK388 hb
             replace BK395 := bB BK395 hb
             replace BK401 := bB BK401 hb
             replace BK408 := bB BK408 hb
             replace BK421 := bB BK421 hb
             replace HB := bS HB hb
             (try clear hb)
             refine hK.out _ _ (bS4 BK380 (bS4 BK388 (bS4 BK408 (bT4 BK421)))) (fun hHeld => ?_)
             clear hK K
             refine nO (some 131) ?_
             refine pI 64 (some 132) HT_.out ?_
             refine pI 65 (some 133) HT_.out ?_
             refine pI 66 (some 134) HT_.out ?_
             refine pI 67 (some 2) HT_.out ?_
             refine done_ (done_of HT_.out (by kernel_rfl)) ?_
             try go_wp2
             go_ret
             exact ⟨rR, bZ HB⟩
            ·rw [if_neg c91] at H
             have c91b0 : (t429.toList == t430.toList) = false := beq_eq_false_iff_ne.mpr c91
             have c91b1 : (t429.toList != t430.toList) = true := bne_iff_ne.mpr c91
             exact absurd (Option.some.inj H) (by rw [htrue.out]; exact Bool.false_ne_true)
           ·rw [if_neg c88] at H
            have c88b0 : (t409.toList == t428.toList) = false := beq_eq_false_iff_ne.mpr c88
            have c88b1 : (t409.toList != t428.toList) = true := bne_iff_ne.mpr c88
            exact absurd (Option.some.inj H) (by rw [htrue.out]; exact Bool.false_ne_true)
          ·rw [if_neg c86] at H
           have c86b0 : ((t409.size : Int) == 32) = false := beq_eq_false_iff_ne.mpr c86
           have c86b1 : ((t409.size : Int) != 32) = true := bne_iff_ne.mpr c86
           exact absurd (Option.some.inj H) (by rw [htrue.out]; exact Bool.false_ne_true)
         ·rw [if_neg c85] at H
          have c85b0 : ((t413.length : Int) == 2) = false := beq_eq_false_iff_ne.mpr c85
          have c85b1 : ((t413.length : Int) != 2) = true := bne_iff_ne.mpr c85
          exact absurd (Option.some.inj H) (by rw [htrue.out]; exact Bool.false_ne_true)
       ·rw [if_neg c22] at H
        have c22b0 : (t394 == t400) = false := by simpa using c22
        (try (have c22b1 : decide (t394 = t400) = false := by simpa using c22))
        (try (have c22b2 : (t394 == t400) = false := by simpa using c22))
        (try (have c22b3 : ¬ (t394 = t400) := by simpa using c22))
        clear c22
        exact absurd (Option.some.inj H) (by rw [htrue.out]; exact Bool.false_ne_true)
      ·rw [if_neg c21] at H
       have c21b0 : (t383 == t376 && (t384.toList == t377.toList && (t385.toList == t378.toList && (t386.toList == t379.toList)))) = false := by simpa using c21
       (try (have c21b1 : decide (t383 = t376 && (t384.toList == t377.toList && (t385.toList == t378.toList && (t386.toList == t379.toList)))) = false := by simpa using c21))
       (try (have c21b2 : (t383 == t376 && (t384.toList == t377.toList && (t385.toList == t378.toList && (t386.toList == t379.toList)))) = false := by simpa using c21))
       (try (have c21b3 : ¬ (t383 = t376 && (t384.toList == t377.toList && (t385.toList == t378.toList && (t386.toList == t379.toList)))) := by simpa using c21))
       clear c21
       exact absurd (Option.some.inj H) (by rw [htrue.out]; exact Bool.false_ne_true)
     ·replace c20 := Bool.eq_false_iff.mpr c20
      subst c20
      rw [if_neg (show ¬ (false = true) by decide)] at H
      exact absurd (Option.some.inj H) (by rw [htrue.out]; exact Bool.false_ne_true)
    ·replace c19 := Bool.eq_false_iff.mpr c19
     subst c19
     rw [if_neg (show ¬ (false = true) by decide)] at H
     by_cases c145 : (t394 == t400) = true
     ·rw [if_pos c145] at H
      have c145b0 : (t394 == t400) = true := c145
      (try (have c145b1 : decide (t394 = t400) = true := by simpa using c145))
      (try (have c145b2 : (t394 == t400) = true := by simpa using c145))
      clear c145
      by_cases c146 : t394 = true
      ·subst c146
       rw [if_pos rfl] at H
       by_cases c147 : t402.toList = t389.toList
       ·rw [if_pos c147] at H
        have c147b0 : (t402.toList == t389.toList) = true := beq_iff_eq.mpr c147
        have c147b1 : (t402.toList != t389.toList) = false := bne_eq_false_iff_eq.mpr c147
        clear c147
        by_cases c148 : (t413.length : Int) = 2
        ·rw [if_pos c148] at H
         have c148b0 : ((t413.length : Int) == 2) = true := beq_iff_eq.mpr c148
         have c148b1 : ((t413.length : Int) != 2) = false := bne_eq_false_iff_eq.mpr c148
         clear c148
         by_cases c149 : (t409.size : Int) = 32
         ·rw [if_pos c149] at H
          have c149b0 : ((t409.size : Int) == 32) = true := beq_iff_eq.mpr c149
          have c149b1 : ((t409.size : Int) != 32) = false := bne_eq_false_iff_eq.mpr c149
          clear c149
          replace H := Option.bind_eq_some_iff.mp H
          obtain ⟨t432, A1500, H⟩ := H
          have A150 := Aside0.mk A1500
          clear A1500
          by_cases c151 : t409.toList = t432.toList
          ·rw [if_pos c151] at H
           have c151b0 : (t409.toList == t432.toList) = true := beq_iff_eq.mpr c151
           have c151b1 : (t409.toList != t432.toList) = false := bne_eq_false_iff_eq.mpr c151
           clear c151
           replace H := Option.bind_eq_some_iff.mp H
           obtain ⟨t433, A1520, H⟩ := H
           have A152 := Aside0.mk A1520
           clear A1520
           replace H := Option.bind_eq_some_iff.mp H
           obtain ⟨t434, A1530, H⟩ := H
           have A153 := Aside0.mk A1530
           clear A1530
           by_cases c154 : t433.toList = t434.toList
           ·rw [if_pos c154] at H
            have c154b0 : (t433.toList == t434.toList) = true := beq_iff_eq.mpr c154
            have c154b1 : (t433.toList != t434.toList) = false := bne_eq_false_iff_eq.mpr c154
            clear c154
            replace H := Option.bind_eq_some_iff.mp H
            obtain ⟨t435, A1550, H⟩ := H
            have A155 := Aside0.mk A1550
            clear A1550
            obtain rfl := Option.some.inj H
            go_enter Tryd.func10, Tryd.ntmps10
            try go_wp2_with (first | ((with_reducible refine gate_callee (f := 26) rfl ?_); refine gL (some 21) Tryd.func26 #[.slice A0 l0.length c0] ?_; (with_reducible refine (laws_big.calls _ _ l0 false _ ?side1 ?side2 A2.out).mono ?_); (case side1 => exact cP HR0.out); (case side2 => exact HC0.out); rintro e w' ⟨rfl, ⟨nd, rfl⟩⟩; refine ⟨_, rfl, ?_⟩) | ((with_reducible refine gate_callee (f := 40) rfl ?_); refine gL (some 23) Tryd.func40 #[.slice A0 l0.length c0] ?_; (with_reducible refine (spec_DrawHeadText.calls k _ _ l0 t376 t377 t378 t379 _ ?side1 ?side2 A4.out).mono ?_); (case side1 => exact cP HR0.out); (case side2 => exact HC0.out); rintro e w156 ⟨rfl, hb⟩; refine ⟨_, rfl, ?_⟩; replace HB := bS HB hb; (try clear hb)) | ((with_reducible refine gate_dst (N := 3) rfl ?_); (try (refine gate_guard (by rfl) ?_; dsimp only)); refine box_event ?hg (N := 3) ?hd (cs := #[.int .i64 0, .string (⟨#[]⟩ : ByteArray), .string (⟨#[]⟩ : ByteArray), .string (⟨#[]⟩ : ByteArray)]) (t := 34) ?hr ?_; (case hd => rfl); (case hg => rfl); (case hr => first | (go_simp; done) | (go_simp; rfl)); intro gb380 hg w157 hbox hb; have BK380 := Aside0.mk (hbox); have GW380 := bG HB hg; have GE380 := bG HB hg; replace HB := bS HB hb; clear hb hbox hg; obtain ⟨hcz158_0, hcz158_1, hcz158_2, hcz158_3, hfz158_0, hfz158_1, hfz158_2, hfz158_3⟩ := bK4 (w := w157) BK380) | ((with_reducible refine gate_callee (f := 41) rfl ?_); refine gL (some 26) Tryd.func41 #[.agg #[.int .i64 t376, .string t377, .string t378, .string t379]] ?_; (with_reducible refine (impl_HeadText.calls k t376 t377 t378 t379 t381 false _ A5.out).mono ?_); rintro e w159 ⟨rfl, hb⟩; refine ⟨_, rfl, ?_⟩; replace BK380 := bV 34 #[.int .i64 t376, .string t377, .string t378, .string t379] BK380 hb; replace HB := bS HB hb; (try clear hb)) | ((with_reducible refine gate_callee (f := 42) rfl ?_); refine gL (some 31) Tryd.func42 #[.string t381] ?_; (with_reducible refine (impl_ReadHead.calls k t381 t383 t384 t385 t386 t387 _ A6.out).mono ?_); rintro e w160 ⟨rfl, hb⟩; refine ⟨_, rfl, ?_⟩; replace BK380 := bB BK380 hb; replace HB := bS HB hb; (try clear hb)) | ((with_reducible refine gate_dst (N := 6) rfl ?_); (try (refine gate_guard (by rfl) ?_; dsimp only)); refine box_event ?hg (N := 6) ?hd (cs := #[.int .i64 0, .string (⟨#[]⟩ : ByteArray), .string (⟨#[]⟩ : ByteArray), .string (⟨#[]⟩ : ByteArray)]) (t := 34) ?hr ?_; (case hd => rfl); (case hg => rfl); (case hr => first | (go_simp; done) | (go_simp; rfl)); intro gb388 hg w161 hbox hb; have BK388 := Aside0.mk (hbox); have GW388 := bG HB hg; have GE388 := bG HB hg; replace HB := bS HB hb; have NB380_388 := bL BK380 hg; have NB388_380 := bR BK380 hg; replace BK380 := bB BK380 hb; clear hb hbox hg; obtain ⟨hnb162, hnc162⟩ := nB NB388_380; obtain ⟨hcz163_0, hcz163_1, hcz163_2, hcz163_3, hfz163_0, hfz163_1, hfz163_2, hfz163_3⟩ := bK4 (w := w161) BK388) | ((with_reducible refine gate_callee (f := 43) rfl ?_); refine gL (some 35) Tryd.func43 #[.slice A0 l0.length c0] ?_; (with_reducible refine (spec_DrawReadHead.calls k _ _ l0 t389 _ ?side1 ?side2 A7.out).mono ?_); (case side1 => exact Kd.C_below HR0.out (bZ HB)); (case side2 => exact HC0.out); rintro e w164 ⟨rfl, hb⟩; refine ⟨_, rfl, ?_⟩; replace BK380 := bB BK380 hb; replace BK388 := bV 34 #[.int .i64 t383, .string t384, .string t385, .string t386] BK388 hb; replace HB := bS HB hb; (try clear hb)) | ((with_reducible refine gate_callee (f := 42) rfl ?_); refine gL (some 38) Tryd.func42 #[.string t389] ?_; (with_reducible refine (impl_ReadHead.calls k t389 t390 t391 t392 t393 true _ A8.out).mono ?_); rintro e w165 ⟨rfl, hb⟩; refine ⟨_, rfl, ?_⟩; replace BK380 := bB BK380 hb; replace BK388 := bB BK388 hb; replace HB := bS HB hb; (try clear hb)) | ((with_reducible refine gate_dst (N := 9) rfl ?_); (try (refine gate_guard (by rfl) ?_; dsimp only)); refine box_event ?hg (N := 9) ?hd (cs := #[.int .i64 0, .string (⟨#[]⟩ : ByteArray), .string (⟨#[]⟩ : ByteArray), .string (⟨#[]⟩ : ByteArray)]) (t := 34) ?hr ?_; (case hd => rfl); (case hg => rfl); (case hr => first | (go_simp; done) | (go_simp; rfl)); intro gb395 hg w166 hbox hb; have BK395 := Aside0.mk (hbox); have GW395 := bG HB hg; have GE395 := bG HB hg; replace HB := bS HB hb; have NB380_395 := bL BK380 hg; have NB395_380 := bR BK380 hg; replace BK380 := bB BK380 hb; have NB388_395 := bL BK388 hg; have NB395_388 := bR BK388 hg; replace BK388 := bB BK388 hb; clear hb hbox hg; obtain ⟨hnb167, hnc167⟩ := nB NB395_380; obtain ⟨hnb168, hnc168⟩ := nB NB395_388; obtain ⟨hcz169_0, hcz169_1, hcz169_2, hcz169_3, hfz169_0, hfz169_1, hfz169_2, hfz169_3⟩ := bK4 (w := w166) BK395) | ((with_reducible refine gate_callee (f := 44) rfl ?_); refine gL (some 43) Tryd.func44 #[.string t389] ?_; (with_reducible refine (spec_ReadHead.calls k t389 t396 t397 t398 t399 t400 _ A9.out).mono ?_); rintro e w170 ⟨rfl, hb⟩; refine ⟨_, rfl, ?_⟩; replace BK380 := bB BK380 hb; replace BK388 := bB BK388 hb; replace BK395 := bV 34 #[.int .i64 t390, .string t391, .string t392, .string t393] BK395 hb; replace HB := bS HB hb; (try clear hb)) | ((with_reducible refine gate_dst (N := 11) rfl ?_); (try (refine gate_guard (by rfl) ?_; dsimp only)); refine box_event ?hg (N := 11) ?hd (cs := #[.int .i64 0, .string (⟨#[]⟩ : ByteArray), .string (⟨#[]⟩ : ByteArray), .string (⟨#[]⟩ : ByteArray)]) (t := 34) ?hr ?_; (case hd => rfl); (case hg => rfl); (case hr => first | (go_simp; done) | (go_simp; rfl)); intro gb401 hg w171 hbox hb; have BK401 := Aside0.mk (hbox); have GW401 := bG HB hg; have GE401 := bG HB hg; replace HB := bS HB hb; have NB380_401 := bL BK380 hg; have NB401_380 := bR BK380 hg; replace BK380 := bB BK380 hb; have NB388_401 := bL BK388 hg; have NB401_388 := bR BK388 hg; replace BK388 := bB BK388 hb; have NB395_401 := bL BK395 hg; have NB401_395 := bR BK395 hg; replace BK395 := bB BK395 hb; clear hb hbox hg; obtain ⟨hnb172, hnc172⟩ := nB NB401_380; obtain ⟨hnb173, hnc173⟩ := nB NB401_388; obtain ⟨hnb174, hnc174⟩ := nB NB401_395; obtain ⟨hcz175_0, hcz175_1, hcz175_2, hcz175_3, hfz175_0, hfz175_1, hfz175_2, hfz175_3⟩ := bK4 (w := w171) BK401; obtain ⟨hcz176_0, hcz176_1, hcz176_2, hcz176_3, hfz176_0, hfz176_1, hfz176_2, hfz176_3⟩ := bK4 (w := w171) BK395) | ((with_reducible refine gate_callee (f := 41) rfl ?_); refine gL (some 48) Tryd.func41 #[.agg #[.int .i64 t390, .string t391, .string t392, .string t393]] ?_; (with_reducible refine (impl_HeadText.calls k t390 t391 t392 t393 t402 t403 _ A10.out).mono ?_); rintro e w177 ⟨rfl, hb⟩; refine ⟨_, rfl, ?_⟩; replace BK380 := bB BK380 hb; replace BK388 := bB BK388 hb; replace BK395 := bB BK395 hb; replace BK401 := bV 34 #[.int .i64 t396, .string t397, .string t398, .string t399] BK401 hb; replace HB := bS HB hb; (try clear hb)) | ((with_reducible refine gate_callee (f := 45) rfl ?_); refine gL (some 52) Tryd.func45 #[.slice A0 l0.length c0] ?_; (with_reducible refine (spec_DrawHead.calls k _ _ l0 t404 t405 t406 t407 _ ?side1 ?side2 A11.out).mono ?_); (case side1 => exact cP (Kd.C_below HR0.out HB.out)); (case side2 => exact HC0.out); rintro e w178 ⟨rfl, hb⟩; refine ⟨_, rfl, ?_⟩; replace BK380 := bB BK380 hb; replace BK388 := bB BK388 hb; replace BK395 := bB BK395 hb; replace BK401 := bB BK401 hb; replace HB := bS HB hb; (try clear hb)) | ((with_reducible refine gate_dst (N := 15) rfl ?_); (try (refine gate_guard (by rfl) ?_; dsimp only)); refine box_event ?hg (N := 15) ?hd (cs := #[.int .i64 0, .string (⟨#[]⟩ : ByteArray), .string (⟨#[]⟩ : ByteArray), .string (⟨#[]⟩ : ByteArray)]) (t := 34) ?hr ?_; (case hd => rfl); (case hg => rfl); (case hr => first | (go_simp; done) | (go_simp; rfl)); intro gb408 hg w179 hbox hb; have BK408 := Aside0.mk (hbox); have GW408 := bG HB hg; have GE408 := bG HB hg; replace HB := bS HB hb; have NB380_408 := bL BK380 hg; have NB408_380 := bR BK380 hg; replace BK380 := bB BK380 hb; have NB388_408 := bL BK388 hg; have NB408_388 := bR BK388 hg; replace BK388 := bB BK388 hb; have NB395_408 := bL BK395 hg; have NB408_395 := bR BK395 hg; replace BK395 := bB BK395 hb; have NB401_408 := bL BK401 hg; have NB408_401 := bR BK401 hg; replace BK401 := bB BK401 hb; clear hb hbox hg; obtain ⟨hnb180, hnc180⟩ := nB NB408_380; obtain ⟨hnb181, hnc181⟩ := nB NB408_388; obtain ⟨hnb182, hnc182⟩ := nB NB408_395; obtain ⟨hnb183, hnc183⟩ := nB NB408_401; obtain ⟨hcz184_0, hcz184_1, hcz184_2, hcz184_3, hfz184_0, hfz184_1, hfz184_2, hfz184_3⟩ := bK4 (w := w179) BK408) | ((with_reducible refine gate_callee (f := 21) rfl ?_); refine gL (some 54) Tryd.func21 #[.agg #[.int .i64 t404, .string t405, .string t406, .string t407]] ?_; (with_reducible refine (impl_HeadRoot.calls k t404 t405 t406 t407 t409 _ (Kp.Tab.below HT.out (bZ HB)) A12.out).mono ?_); rintro e w185 ⟨rfl, hb⟩; refine ⟨_, rfl, ?_⟩; replace BK380 := bB BK380 hb; replace BK388 := bB BK388 hb; replace BK395 := bB BK395 hb; replace BK401 := bB BK401 hb; replace BK408 := bV 34 #[.int .i64 t404, .string t405, .string t406, .string t407] BK408 hb; replace HB := bS HB hb; (try clear hb); obtain ⟨hcz186_0, hcz186_1, hcz186_2, hcz186_3, hfz186_0, hfz186_1, hfz186_2, hfz186_3⟩ := bK4 (w := w185) BK408) | ((with_reducible refine gate_dst (N := 61) rfl ?_); (try (refine gate_guard (by rfl) ?_; dsimp only)); refine Kd.R_lit Kd.string _ 9 ?hg (N := 61) ?hd (xs := ([(⟨#[]⟩ : ByteArray), t405, t406, t407] : List ByteArray)) (inner := [.string (⟨#[]⟩ : ByteArray), .string t405, .string t406, .string t407]) (ok := fun _ => True) (okp := fun _ => True) ?hr ?hp (fun _ hk => hk) trivial (Below.refl _ _) (Nat.le_refl _) (by simp) ?_; (case hd => rfl); (case hg => rfl); (case hr => first | (go_simp; done) | (go_simp; rfl)); (case hp => exact (Reps.one (show Kd.M Kd.string _ _ _ (⟨#[]⟩ : ByteArray) [.string (⟨#[]⟩ : ByteArray)] from rfl) (Reps.one (show Kd.M Kd.string _ _ _ t405 [.string t405] from rfl) (Reps.one (show Kd.M Kd.string _ _ _ t406 [.string t406] from rfl) (Reps.one (show Kd.M Kd.string _ _ _ t407 [.string t407] from rfl) (Reps.none _ _)))))); intro v411 w187 ho188 hb hg_ hnew_; clear hg_ hnew_; (first | rw [← Ny410.out] at ho188 | (simp only [Int.reduceToNat] at ho188; rw [← Ny410.out] at ho188)); have HO412 := Aside0.mk (Kd.R_lower ho188 (below_size (bZ HB))); replace BK380 := bB BK380 hb; replace BK388 := bB BK388 hb; replace BK395 := bB BK395 hb; replace BK401 := bB BK401 hb; replace BK408 := bB BK408 hb; replace HB := bS HB hb; clear hb ho188; obtain ⟨Ao189, co189, eo189⟩ := Kd.R_slice HO412.out; subst eo189) | ((with_reducible refine gate_callee (f := 22) rfl ?_); refine gL (some 62) Tryd.func22 #[.slice Ao189 y410.length co189, .int .i64 2] ?_; (with_reducible refine (spec_BranchOf.calls k _ _ y410 2 t413 _ ?side1 ?side2 A13.out).mono ?_); (case side1 => exact cP ((Kd.R_reads' HO412.out).2.2)); (case side2 => exact (Kd.R_reads' HO412.out).2.1); rintro e w190 ⟨v414, rfl, ho0, hb⟩; refine ⟨_, rfl, ?_⟩; have HO415 := Aside0.mk (Kd.R_lower (Kd.R_new' ho0 (Kd.R_lt (rP HO412))) (below_size (bZ HB))); replace HO412 := Aside0.mk (Kd.R_elder' (rP HO412) (Kd.R_base ho0) hb); replace BK380 := bB BK380 hb; replace BK388 := bB BK388 hb; replace BK395 := bB BK395 hb; replace BK401 := bB BK401 hb; replace BK408 := bB BK408 hb; replace HB := bS HB hb; (try clear hb); (try clear ho0)) | ((with_reducible refine gate_callee (f := 46) rfl ?_); refine gL (some 65) Tryd.func46 #[.slice A0 l0.length c0] ?_; (with_reducible refine (spec_DrawSigText.calls k _ _ l0 t416 t417 t418 t419 t420 _ ?side1 ?side2 A14.out).mono ?_); (case side1 => exact cP (Kd.C_below HR0.out HB.out)); (case side2 => exact HC0.out); rintro e w191 ⟨rfl, hb⟩; refine ⟨_, rfl, ?_⟩; replace HO412 := Aside0.mk (Kd.R_below (rP HO412) hb); replace HO415 := Aside0.mk (Kd.R_below (rP HO415) hb); replace BK380 := bB BK380 hb; replace BK388 := bB BK388 hb; replace BK395 := bB BK395 hb; replace BK401 := bB BK401 hb; replace BK408 := bB BK408 hb; replace HB := bS HB hb; (try clear hb)) | ((with_reducible refine gate_dst (N := 18) rfl ?_); (try (refine gate_guard (by rfl) ?_; dsimp only)); refine box_event ?hg (N := 18) ?hd (cs := #[.int .i64 0, .string (⟨#[]⟩ : ByteArray), .string (⟨#[]⟩ : ByteArray), .string (⟨#[]⟩ : ByteArray)]) (t := 34) ?hr ?_; (case hd => rfl); (case hg => rfl); (case hr => first | (go_simp; done) | (go_simp; rfl)); intro gb421 hg w192 hbox hb; replace HO412 := Aside0.mk (Kd.R_below (rP HO412) hb); replace HO415 := Aside0.mk (Kd.R_below (rP HO415) hb); have BK421 := Aside0.mk (hbox); have GW421 := bG HB hg; have GE421 := bG HB hg; replace HB := bS HB hb; have NB380_421 := bL BK380 hg; have NB421_380 := bR BK380 hg; replace BK380 := bB BK380 hb; have NB388_421 := bL BK388 hg; have NB421_388 := bR BK388 hg; replace BK388 := bB BK388 hb; have NB395_421 := bL BK395 hg; have NB421_395 := bR BK395 hg; replace BK395 := bB BK395 hb; have NB401_421 := bL BK401 hg; have NB421_401 := bR BK401 hg; replace BK401 := bB BK401 hb; have NB408_421 := bL BK408 hg; have NB421_408 := bR BK408 hg; replace BK408 := bB BK408 hb; clear hb hbox hg; obtain ⟨hnb193, hnc193⟩ := nB NB421_380; obtain ⟨hnb194, hnc194⟩ := nB NB421_388; obtain ⟨hnb195, hnc195⟩ := nB NB421_395; obtain ⟨hnb196, hnc196⟩ := nB NB421_401; obtain ⟨hnb197, hnc197⟩ := nB NB421_408; obtain ⟨hcz198_0, hcz198_1, hcz198_2, hcz198_3, hfz198_0, hfz198_1, hfz198_2, hfz198_3⟩ := bK4 (w := w192) BK421))
            obtain ⟨w199, hW_⟩ : ∃ W_ : World, W_ = ((((w192.setCell ⟨gb421, 0, none⟩ (.int .i64 t416)).setCell ⟨gb421, 1, none⟩ (.string t417)).setCell ⟨gb421, 2, none⟩ (.string t418)).setCell ⟨gb421, 3, none⟩ (.string t419)) := ⟨_, rfl⟩
            have n0_ : Aside0 (Kd.R Kd.string 9 ((((w192.setCell ⟨gb421, 0, none⟩ (.int .i64 t416)).setCell ⟨gb421, 1, none⟩ (.string t417)).setCell ⟨gb421, 2, none⟩ (.string t418)).setCell ⟨gb421, 3, none⟩ (.string t419)) w.heap.size (fun k_ => some k_ ≠ (v414 : Value).ownBlock) (.slice Ao189 y410.length co189) y410) := ⟨by (with_reducible repeat (first | apply Kd.R_alloc | apply Kd.R_drewN | apply Kd.R_drew)); exact Kd.R_mono (Kd.R_far (p := ⟨gb421, 3, none⟩) (Kd.R_far (p := ⟨gb421, 2, none⟩) (Kd.R_far (p := ⟨gb421, 1, none⟩) (Kd.R_far (p := ⟨gb421, 0, none⟩) (Kd.R_types HO412.out BK421.out (by decide)) (fun _ hk => hk.2) (.int .i64 t416)) (fun _ hk => hk.2) (.string t417)) (fun _ hk => hk.2) (.string t418)) (fun _ hk => hk.2) (.string t419)) (fun _ hk => hk.1.2)⟩
            rw [← hW_] at n0_
            have n1_ : Aside0 (Kd.R Kd.string 9 ((((w192.setCell ⟨gb421, 0, none⟩ (.int .i64 t416)).setCell ⟨gb421, 1, none⟩ (.string t417)).setCell ⟨gb421, 2, none⟩ (.string t418)).setCell ⟨gb421, 3, none⟩ (.string t419)) w.heap.size (fun k_ => some k_ ≠ (.slice Ao189 y410.length co189 : Value).ownBlock) v414 t413) := ⟨by (with_reducible repeat (first | apply Kd.R_alloc | apply Kd.R_drewN | apply Kd.R_drew)); exact Kd.R_mono (Kd.R_far (p := ⟨gb421, 3, none⟩) (Kd.R_far (p := ⟨gb421, 2, none⟩) (Kd.R_far (p := ⟨gb421, 1, none⟩) (Kd.R_far (p := ⟨gb421, 0, none⟩) (Kd.R_types HO415.out BK421.out (by decide)) (fun _ hk => hk.2) (.int .i64 t416)) (fun _ hk => hk.2) (.string t417)) (fun _ hk => hk.2) (.string t418)) (fun _ hk => hk.2) (.string t419)) (fun _ hk => hk.1.2)⟩
            rw [← hW_] at n1_
            replace BK380 := bW hW_ BK380
            replace BK388 := bW hW_ BK388
            replace BK395 := bW hW_ BK395
            replace BK401 := bW hW_ BK401
            replace BK408 := bW hW_ BK408
            replace BK421 := bX hW_ 34 #[.int .i64 t416, .string t417, .string t418, .string t419] BK421
            (try clear HO412)
            (try clear HO415)
            have HO412 := n0_
            clear n0_
            have HO415 := n1_
            clear n1_
            replace HB := zW hW_ HB
            rw [← hW_]
            clear hW_
            replace HO412 := Aside0.mk (Kd.R_drew HO412.out)
            replace HO415 := Aside0.mk (Kd.R_drew HO415.out)
            replace BK380 := Aside0.mk (blk_drew BK380.out)
            replace BK388 := Aside0.mk (blk_drew BK388.out)
            replace BK395 := Aside0.mk (blk_drew BK395.out)
            replace BK401 := Aside0.mk (blk_drew BK401.out)
            replace BK408 := Aside0.mk (blk_drew BK408.out)
            replace BK421 := Aside0.mk (blk_drew BK421.out)
            replace HB := Aside0.mk (below_drew1 HB.out)
            refine start_ (n := 68) (S := fun w' => SP4 w' gb380 (.int .i64 t376) (.string t377) (.string t378) (.string t379) (SP4 w' gb408 (.int .i64 t404) (.string t405) (.string t406) (.string t407) (SQ4 w' gb421 (.int .i64 t416) (.string t417) (.string t418) (.string t419)))) (ds := []) #[false, false, false, false, false, false, false, false, false, false, false, false, false, false, false, false, false, false, false, false, false, false, false, false, false, false, false, false, false, false, false, false, false, false, false, false, false, false, false, false, false, false, false, false, false, false, false, false, false, false, false, false, false, false, false, false, false, false, false, false, false, false, false, false, false, false, false, false] (by kernel_rfl) rfl rfl (bS4 BK380 (bS4 BK408 (bT4 BK421))) (fun hHeld => ?_); refine with_tabW laws_FnHeads.tab14 laws_FnHeads.bits14 (fun HT_ HW_ => ?_)
            generalize w199.drew = w200 at HO412 HO415 BK380 BK388 BK395 BK401 BK408 BK421 HB hHeld ⊢
            refine pI 0 (some 68) HT_.out ?_
            refine tI12 1 (some 69) HT_.out HW_.out hHeld ?_
            refine oI 2 (some 70) HT_.out (fun K hK => ?_)
            refine gO Tryd.func47 #[.agg #[.int .i64 t376, .string t377, .string t378, .string t379]] ?_
            with_reducible refine (spec_HeadOk.calls t376 t377 t378 t379 t422 _ A15.out).mono ?_
            rintro e w201 ⟨rfl, hb⟩
            refine ⟨_, rfl, ?_⟩
            replace HO412 := Aside0.mk (Kd.R_below (rP HO412) hb)
            replace HO415 := Aside0.mk (Kd.R_below (rP HO415) hb)
            replace BK380 := bB BK380 hb
            replace BK388 := bB BK388 hb
            replace BK395 := bB BK395 hb
            replace BK401 := bB BK401 hb
            replace BK408 := bB BK408 hb
            replace BK421 := bB BK421 hb
            replace HB := bS HB hb
            (try clear hb)
            refine hK.out _ _ (bS4 BK380 (bS4 BK408 (bT4 BK421))) (fun hHeld => ?_)
            clear hK K
            refine nO (some 70) ?_
            refine pI 3 (some 71) HT_.out ?_
            refine pI 4 (some 72) HT_.out ?_
            refine pI 7 (some 75) HT_.out ?_
            refine tI12 5 (some 73) HT_.out HW_.out hHeld ?_
            refine oI 6 (some 74) HT_.out (fun K hK => ?_)
            refine gO Tryd.func48 #[.agg #[.int .i64 t376, .string t377, .string t378, .string t379]] ?_
            with_reducible refine (impl_HeadOk.calls t376 t377 t378 t379 t423 _ A17.out).mono ?_
            rintro e w202 ⟨rfl, hb⟩
            refine ⟨_, rfl, ?_⟩
            replace HO412 := Aside0.mk (Kd.R_below (rP HO412) hb)
            replace HO415 := Aside0.mk (Kd.R_below (rP HO415) hb)
            replace BK380 := bB BK380 hb
            replace BK388 := bB BK388 hb
            replace BK395 := bB BK395 hb
            replace BK401 := bB BK401 hb
            replace BK408 := bB BK408 hb
            replace BK421 := bB BK421 hb
            replace HB := bS HB hb
            (try clear hb)
            obtain ⟨Ao203, co203, eo203⟩ := Kd.R_slice HO415.out
            (first | subst eo203 | (injection eo203 with f1_ f2_ f3_; have f4_ := f1_.symm; have f5_ := f3_.symm; clear f1_ f2_ f3_; subst f4_; subst f5_))
            refine hK.out _ _ (bS4 BK380 (bS4 BK408 (bT4 BK421))) (fun hHeld => ?_)
            clear hK K
            refine nO (some 74) ?_
            refine pI 8 (some 76) HT_.out ?_
            refine pI 9 (some 77) HT_.out ?_
            refine pI 10 (some 78) HT_.out ?_
            refine pI 11 (some 79) HT_.out ?_
            refine pI 12 (some 80) HT_.out ?_
            refine pI 13 (some 81) HT_.out ?_
            refine pure_ (i := 14) (N := some 82) (v := undef) (a' := ?_) #[true, true, true, true, true, true, true, true, true, true, true, true, true, true, true, false, false, false, false, false, false, false, false, false, false, false, false, false, false, false, false, false, false, false, false, false, false, false, false, false, false, false, false, false, false, false, false, false, false, false, false, false, false, false, false, false, false, false, false, false, false, false, false, false, false, false, false, false] rfl rfl (any_of HT_.out (by kernel_rfl)) (fun _ _ _ h => h) (Or.inr ⟨by rfl, rfl⟩) ?_ ?_
            rotate_left
            ·simp only [Act.put, List.setIfInBounds_toArray, List.set_cons_zero, List.set_cons_succ, i64_w, i32_w]
             rfl
            refine pure_ (i := 15) (N := some 83) (v := undef) (a' := ?_) #[true, true, true, true, true, true, true, true, true, true, true, true, true, true, true, true, false, false, false, false, false, false, false, false, false, false, false, false, false, false, false, false, false, false, false, false, false, false, false, false, false, false, false, false, false, false, false, false, false, false, false, false, false, false, false, false, false, false, false, false, false, false, false, false, false, false, false, false] rfl rfl (any_of HT_.out (by kernel_rfl)) (fun _ _ _ h => h) (Or.inr ⟨by rfl, rfl⟩) ?_ ?_
            rotate_left
            ·simp only [Act.put, List.setIfInBounds_toArray, List.set_cons_zero, List.set_cons_succ, i64_w, i32_w]
             rfl
            refine pure_ (i := 16) (N := some 84) (v := undef) (a' := ?_) #[true, true, true, true, true, true, true, true, true, true, true, true, true, true, true, true, true, false, false, false, false, false, false, false, false, false, false, false, false, false, false, false, false, false, false, false, false, false, false, false, false, false, false, false, false, false, false, false, false, false, false, false, false, false, false, false, false, false, false, false, false, false, false, false, false, false, false, false] rfl rfl (any_of HT_.out (by kernel_rfl)) (fun _ _ _ h => h) (Or.inr ⟨by rfl, rfl⟩) ?_ ?_
            rotate_left
            ·simp only [Act.put, List.setIfInBounds_toArray, List.set_cons_zero, List.set_cons_succ, i64_w, i32_w]
             rfl
            refine pure_ (i := 17) (N := some 85) (v := undef) (a' := ?_) #[true, true, true, true, true, true, true, true, true, true, true, true, true, true, true, true, true, true, false, false, false, false, false, false, false, false, false, false, false, false, false, false, false, false, false, false, false, false, false, false, false, false, false, false, false, false, false, false, false, false, false, false, false, false, false, false, false, false, false, false, false, false, false, false, false, false, false, false] rfl rfl (any_of HT_.out (by kernel_rfl)) (fun _ _ _ h => h) (Or.inr ⟨by rfl, rfl⟩) ?_ ?_
            rotate_left
            ·simp only [Act.put, List.setIfInBounds_toArray, List.set_cons_zero, List.set_cons_succ, i64_w, i32_w]
             rfl
            refine pure_ (i := 18) (N := some 86) (v := undef) (a' := ?_) #[true, true, true, true, true, true, true, true, true, true, true, true, true, true, true, true, true, true, true, false, false, false, false, false, false, false, false, false, false, false, false, false, false, false, false, false, false, false, false, false, false, false, false, false, false, false, false, false, false, false, false, false, false, false, false, false, false, false, false, false, false, false, false, false, false, false, false, false] rfl rfl (any_of HT_.out (by kernel_rfl)) (fun _ _ _ h => h) (Or.inr ⟨by rfl, rfl⟩) ?_ ?_
            rotate_left
            ·simp only [Act.put, List.setIfInBounds_toArray, List.set_cons_zero, List.set_cons_succ, i64_w, i32_w]
             rfl
            refine pure_ (i := 19) (N := some 87) (v := undef) (a' := ?_) #[true, true, true, true, true, true, true, true, true, true, true, true, true, true, true, true, true, true, true, true, false, false, false, false, false, false, false, false, false, false, false, false, false, false, false, false, false, false, false, false, false, false, false, false, false, false, false, false, false, false, false, false, false, false, false, false, false, false, false, false, false, false, false, false, false, false, false, false] rfl rfl (any_of HT_.out (by kernel_rfl)) (fun _ _ _ h => h) (Or.inr ⟨by rfl, rfl⟩) ?_ ?_
            rotate_left
            ·simp only [Act.put, List.setIfInBounds_toArray, List.set_cons_zero, List.set_cons_succ, i64_w, i32_w]
             rfl
            refine pI 20 (some 88) HT_.out ?_
            refine pI 21 (some 89) HT_.out ?_
            refine pI 22 (some 90) HT_.out ?_
            refine pI 23 (some 91) HT_.out ?_
            refine pI 24 (some 92) HT_.out ?_
            refine pI 25 (some 93) HT_.out ?_
            refine pI 26 (some 94) HT_.out ?_
            refine pI 27 (some 95) HT_.out ?_
            refine pI 28 (some 96) HT_.out ?_
            refine pI 29 (some 97) HT_.out ?_
            refine pI 30 (some 98) HT_.out ?_
            refine pI 31 (some 99) HT_.out ?_
            refine pI 32 (some 100) HT_.out ?_
            refine pI 33 (some 101) HT_.out ?_
            refine pI 34 (some 102) HT_.out ?_
            refine pI 35 (some 103) HT_.out ?_
            refine pI 36 (some 104) HT_.out ?_
            refine pI 37 (some 105) HT_.out ?_
            refine pI 38 (some 106) HT_.out ?_
            refine pI 39 (some 107) HT_.out ?_
            refine pI 40 (some 108) HT_.out ?_
            refine pI 41 (some 109) HT_.out ?_
            refine pI 42 (some 110) HT_.out ?_
            refine pI 43 (some 111) HT_.out ?_
            refine pI 44 (some 112) HT_.out ?_
            refine pI 45 (some 113) HT_.out ?_
            refine pI 46 (some 114) HT_.out ?_
            refine pI 47 (some 115) HT_.out ?_
            refine tI12 48 (some 116) HT_.out HW_.out hHeld ?_
            refine oI 49 (some 117) HT_.out (fun K hK => ?_)
            refine gO Tryd.func19 #[.agg #[.int .i64 t404, .string t405, .string t406, .string t407]] ?_
            with_reducible refine (spec_HeadRoot.calls k t404 t405 t406 t407 t432 _ A150.out).mono ?_
            rintro e w204 ⟨rfl, hb⟩
            refine ⟨_, rfl, ?_⟩
            replace HO412 := Aside0.mk (Kd.R_below (rP HO412) hb)
            replace HO415 := Aside0.mk (Kd.R_below (rP HO415) hb)
            replace BK380 := bB BK380 hb
            replace BK388 := bB BK388 hb
            replace BK395 := bB BK395 hb
            replace BK401 := bB BK401 hb
            replace BK408 := bB BK408 hb
            replace BK421 := bB BK421 hb
            replace HB := bS HB hb
            (try clear hb)
            refine hK.out _ _ (bS4 BK380 (bS4 BK408 (bT4 BK421))) (fun hHeld => ?_)
            clear hK K
            refine nO (some 117) ?_
            refine pI 50 (some 118) HT_.out ?_
            refine pI 51 (some 119) HT_.out ?_
            refine pI 52 (some 120) HT_.out ?_
            refine pI 54 (some 122) HT_.out ?_
            refine pI 57 (some 125) HT_.out ?_
            refine tI12 53 (some 121) HT_.out HW_.out hHeld ?_
            refine tI12 56 (some 124) HT_.out HW_.out hHeld ?_
            refine oI 55 (some 123) HT_.out (fun K hK => ?_)
            refine gO Tryd.func32 #[.agg #[.int .i64 t416, .string t417, .string t418, .string t419], .int .i64 t420] ?_
            with_reducible refine (impl_SigText.calls k t416 t417 t418 t419 t420 t433 _ (Kp.Tab.below HT.out (bZ HB)) A152.out).mono ?_
            rintro e w205 ⟨rfl, hb⟩
            refine ⟨_, rfl, ?_⟩
            replace HO412 := Aside0.mk (Kd.R_below (rP HO412) hb)
            replace HO415 := Aside0.mk (Kd.R_below (rP HO415) hb)
            replace BK380 := bB BK380 hb
            replace BK388 := bB BK388 hb
            replace BK395 := bB BK395 hb
            replace BK401 := bB BK401 hb
            replace BK408 := bB BK408 hb
            replace BK421 := bB BK421 hb
            replace HB := bS HB hb
            (try clear hb)
            refine hK.out _ _ (bS4 BK380 (bS4 BK408 (bT4 BK421))) (fun hHeld => ?_)
            clear hK K
            refine nO (some 123) ?_
            refine oI 58 (some 126) HT_.out (fun K hK => ?_)
            refine gO Tryd.func31 #[.agg #[.int .i64 t416, .string t417, .string t418, .string t419], .int .i64 t420] ?_
            with_reducible refine (spec_SigText.calls k t416 t417 t418 t419 t420 t434 _ A153.out).mono ?_
            rintro e w206 ⟨rfl, hb⟩
            refine ⟨_, rfl, ?_⟩
            replace HO412 := Aside0.mk (Kd.R_below (rP HO412) hb)
            replace HO415 := Aside0.mk (Kd.R_below (rP HO415) hb)
            replace BK380 := bB BK380 hb
            replace BK388 := bB BK388 hb
            replace BK395 := bB BK395 hb
            replace BK401 := bB BK401 hb
            replace BK408 := bB BK408 hb
            replace BK421 := bB BK421 hb
            replace HB := bS HB hb
            (try clear hb)
            refine hK.out _ _ (bS4 BK380 (bS4 BK408 (bT4 BK421))) (fun hHeld => ?_)
            clear hK K
            refine nO (some 126) ?_
            refine pI 59 (some 127) HT_.out ?_
            refine pI 60 (some 128) HT_.out ?_
            refine pI 61 (some 129) HT_.out ?_
            refine tI12 62 (some 130) HT_.out HW_.out hHeld ?_
            refine oI 63 (some 131) HT_.out (fun K hK => ?_)
            refine gO Tryd.func32 #[.agg #[.int .i64 t404, .string t405, .string t406, .string t407], .int .i64 7] ?_
            with_reducible refine (impl_SigText.calls k t404 t405 t406 t407 7 t435 _ (Kp.Tab.below HT.out (bZ HB)) A155.out).mono ?_
            rintro e w207 ⟨rfl, hb⟩
            refine ⟨_, rfl, ?_⟩
            replace HO412 := Aside0.mk (Kd.R_below (rP HO412) hb)
            replace HO415 := Aside0.mk (Kd.R_below (rP HO415) hb)
            replace BK380 := bB BK380 hb
            replace BK388 := bB BK388 hb
            replace BK395 := bB BK395 hb
            replace BK401 := bB BK401 hb
            replace BK408 := bB BK408 hb
            replace BK421 := bB BK421 hb
            replace HB := bS HB hb
            (try clear hb)
            refine hK.out _ _ (bS4 BK380 (bS4 BK408 (bT4 BK421))) (fun hHeld => ?_)
            clear hK K
            refine nO (some 131) ?_
            refine pI 64 (some 132) HT_.out ?_
            refine pI 65 (some 133) HT_.out ?_
            refine pI 66 (some 134) HT_.out ?_
            refine pI 67 (some 2) HT_.out ?_
            refine done_ (done_of HT_.out (by kernel_rfl)) ?_
            try go_wp2
            go_ret
            exact ⟨rR, bZ HB⟩
           ·rw [if_neg c154] at H
            have c154b0 : (t433.toList == t434.toList) = false := beq_eq_false_iff_ne.mpr c154
            have c154b1 : (t433.toList != t434.toList) = true := bne_iff_ne.mpr c154
            exact absurd (Option.some.inj H) (by rw [htrue.out]; exact Bool.false_ne_true)
          ·rw [if_neg c151] at H
           have c151b0 : (t409.toList == t432.toList) = false := beq_eq_false_iff_ne.mpr c151
           have c151b1 : (t409.toList != t432.toList) = true := bne_iff_ne.mpr c151
           exact absurd (Option.some.inj H) (by rw [htrue.out]; exact Bool.false_ne_true)
         ·rw [if_neg c149] at H
          have c149b0 : ((t409.size : Int) == 32) = false := beq_eq_false_iff_ne.mpr c149
          have c149b1 : ((t409.size : Int) != 32) = true := bne_iff_ne.mpr c149
          exact absurd (Option.some.inj H) (by rw [htrue.out]; exact Bool.false_ne_true)
        ·rw [if_neg c148] at H
         have c148b0 : ((t413.length : Int) == 2) = false := beq_eq_false_iff_ne.mpr c148
         have c148b1 : ((t413.length : Int) != 2) = true := bne_iff_ne.mpr c148
         exact absurd (Option.some.inj H) (by rw [htrue.out]; exact Bool.false_ne_true)
       ·rw [if_neg c147] at H
        have c147b0 : (t402.toList == t389.toList) = false := beq_eq_false_iff_ne.mpr c147
        have c147b1 : (t402.toList != t389.toList) = true := bne_iff_ne.mpr c147
        exact absurd (Option.some.inj H) (by rw [htrue.out]; exact Bool.false_ne_true)
      ·replace c146 := Bool.eq_false_iff.mpr c146
       subst c146
       rw [if_neg (show ¬ (false = true) by decide)] at H
       by_cases c208 : (t413.length : Int) = 2
       ·rw [if_pos c208] at H
        have c208b0 : ((t413.length : Int) == 2) = true := beq_iff_eq.mpr c208
        have c208b1 : ((t413.length : Int) != 2) = false := bne_eq_false_iff_eq.mpr c208
        clear c208
        by_cases c209 : (t409.size : Int) = 32
        ·rw [if_pos c209] at H
         have c209b0 : ((t409.size : Int) == 32) = true := beq_iff_eq.mpr c209
         have c209b1 : ((t409.size : Int) != 32) = false := bne_eq_false_iff_eq.mpr c209
         clear c209
         replace H := Option.bind_eq_some_iff.mp H
         obtain ⟨t436, A2100, H⟩ := H
         have A210 := Aside0.mk A2100
         clear A2100
         by_cases c211 : t409.toList = t436.toList
         ·rw [if_pos c211] at H
          have c211b0 : (t409.toList == t436.toList) = true := beq_iff_eq.mpr c211
          have c211b1 : (t409.toList != t436.toList) = false := bne_eq_false_iff_eq.mpr c211
          clear c211
          replace H := Option.bind_eq_some_iff.mp H
          obtain ⟨t437, A2120, H⟩ := H
          have A212 := Aside0.mk A2120
          clear A2120
          replace H := Option.bind_eq_some_iff.mp H
          obtain ⟨t438, A2130, H⟩ := H
          have A213 := Aside0.mk A2130
          clear A2130
          by_cases c214 : t437.toList = t438.toList
          ·rw [if_pos c214] at H
           have c214b0 : (t437.toList == t438.toList) = true := beq_iff_eq.mpr c214
           have c214b1 : (t437.toList != t438.toList) = false := bne_eq_false_iff_eq.mpr c214
           clear c214
           replace H := Option.bind_eq_some_iff.mp H
           obtain ⟨t439, A2150, H⟩ := H
           have A215 := Aside0.mk A2150
           clear A2150
           obtain rfl := Option.some.inj H
           go_enter Tryd.func10, Tryd.ntmps10
           try go_wp2_with (first | ((with_reducible refine gate_callee (f := 26) rfl ?_); refine gL (some 21) Tryd.func26 #[.slice A0 l0.length c0] ?_; (with_reducible refine (laws_big.calls _ _ l0 false _ ?side1 ?side2 A2.out).mono ?_); (case side1 => exact cP HR0.out); (case side2 => exact HC0.out); rintro e w' ⟨rfl, ⟨nd, rfl⟩⟩; refine ⟨_, rfl, ?_⟩) | ((with_reducible refine gate_callee (f := 40) rfl ?_); refine gL (some 23) Tryd.func40 #[.slice A0 l0.length c0] ?_; (with_reducible refine (spec_DrawHeadText.calls k _ _ l0 t376 t377 t378 t379 _ ?side1 ?side2 A4.out).mono ?_); (case side1 => exact cP HR0.out); (case side2 => exact HC0.out); rintro e w216 ⟨rfl, hb⟩; refine ⟨_, rfl, ?_⟩; replace HB := bS HB hb; (try clear hb)) | ((with_reducible refine gate_dst (N := 3) rfl ?_); (try (refine gate_guard (by rfl) ?_; dsimp only)); refine box_event ?hg (N := 3) ?hd (cs := #[.int .i64 0, .string (⟨#[]⟩ : ByteArray), .string (⟨#[]⟩ : ByteArray), .string (⟨#[]⟩ : ByteArray)]) (t := 34) ?hr ?_; (case hd => rfl); (case hg => rfl); (case hr => first | (go_simp; done) | (go_simp; rfl)); intro gb380 hg w217 hbox hb; have BK380 := Aside0.mk (hbox); have GW380 := bG HB hg; have GE380 := bG HB hg; replace HB := bS HB hb; clear hb hbox hg; obtain ⟨hcz218_0, hcz218_1, hcz218_2, hcz218_3, hfz218_0, hfz218_1, hfz218_2, hfz218_3⟩ := bK4 (w := w217) BK380) | ((with_reducible refine gate_callee (f := 41) rfl ?_); refine gL (some 26) Tryd.func41 #[.agg #[.int .i64 t376, .string t377, .string t378, .string t379]] ?_; (with_reducible refine (impl_HeadText.calls k t376 t377 t378 t379 t381 false _ A5.out).mono ?_); rintro e w219 ⟨rfl, hb⟩; refine ⟨_, rfl, ?_⟩; replace BK380 := bV 34 #[.int .i64 t376, .string t377, .string t378, .string t379] BK380 hb; replace HB := bS HB hb; (try clear hb)) | ((with_reducible refine gate_callee (f := 42) rfl ?_); refine gL (some 31) Tryd.func42 #[.string t381] ?_; (with_reducible refine (impl_ReadHead.calls k t381 t383 t384 t385 t386 t387 _ A6.out).mono ?_); rintro e w220 ⟨rfl, hb⟩; refine ⟨_, rfl, ?_⟩; replace BK380 := bB BK380 hb; replace HB := bS HB hb; (try clear hb)) | ((with_reducible refine gate_dst (N := 6) rfl ?_); (try (refine gate_guard (by rfl) ?_; dsimp only)); refine box_event ?hg (N := 6) ?hd (cs := #[.int .i64 0, .string (⟨#[]⟩ : ByteArray), .string (⟨#[]⟩ : ByteArray), .string (⟨#[]⟩ : ByteArray)]) (t := 34) ?hr ?_; (case hd => rfl); (case hg => rfl); (case hr => first | (go_simp; done) | (go_simp; rfl)); intro gb388 hg w221 hbox hb; have BK388 := Aside0.mk (hbox); have GW388 := bG HB hg; have GE388 := bG HB hg; replace HB := bS HB hb; have NB380_388 := bL BK380 hg; have NB388_380 := bR BK380 hg; replace BK380 := bB BK380 hb; clear hb hbox hg; obtain ⟨hnb222, hnc222⟩ := nB NB388_380; obtain ⟨hcz223_0, hcz223_1, hcz223_2, hcz223_3, hfz223_0, hfz223_1, hfz223_2, hfz223_3⟩ := bK4 (w := w221) BK388) | ((with_reducible refine gate_callee (f := 43) rfl ?_); refine gL (some 35) Tryd.func43 #[.slice A0 l0.length c0] ?_; (with_reducible refine (spec_DrawReadHead.calls k _ _ l0 t389 _ ?side1 ?side2 A7.out).mono ?_); (case side1 => exact Kd.C_below HR0.out (bZ HB)); (case side2 => exact HC0.out); rintro e w224 ⟨rfl, hb⟩; refine ⟨_, rfl, ?_⟩; replace BK380 := bB BK380 hb; replace BK388 := bV 34 #[.int .i64 t383, .string t384, .string t385, .string t386] BK388 hb; replace HB := bS HB hb; (try clear hb)) | ((with_reducible refine gate_callee (f := 42) rfl ?_); refine gL (some 38) Tryd.func42 #[.string t389] ?_; (with_reducible refine (impl_ReadHead.calls k t389 t390 t391 t392 t393 false _ A8.out).mono ?_); rintro e w225 ⟨rfl, hb⟩; refine ⟨_, rfl, ?_⟩; replace BK380 := bB BK380 hb; replace BK388 := bB BK388 hb; replace HB := bS HB hb; (try clear hb)) | ((with_reducible refine gate_dst (N := 9) rfl ?_); (try (refine gate_guard (by rfl) ?_; dsimp only)); refine box_event ?hg (N := 9) ?hd (cs := #[.int .i64 0, .string (⟨#[]⟩ : ByteArray), .string (⟨#[]⟩ : ByteArray), .string (⟨#[]⟩ : ByteArray)]) (t := 34) ?hr ?_; (case hd => rfl); (case hg => rfl); (case hr => first | (go_simp; done) | (go_simp; rfl)); intro gb395 hg w226 hbox hb; have BK395 := Aside0.mk (hbox); have GW395 := bG HB hg; have GE395 := bG HB hg; replace HB := bS HB hb; have NB380_395 := bL BK380 hg; have NB395_380 := bR BK380 hg; replace BK380 := bB BK380 hb; have NB388_395 := bL BK388 hg; have NB395_388 := bR BK388 hg; replace BK388 := bB BK388 hb; clear hb hbox hg; obtain ⟨hnb227, hnc227⟩ := nB NB395_380; obtain ⟨hnb228, hnc228⟩ := nB NB395_388; obtain ⟨hcz229_0, hcz229_1, hcz229_2, hcz229_3, hfz229_0, hfz229_1, hfz229_2, hfz229_3⟩ := bK4 (w := w226) BK395) | ((with_reducible refine gate_callee (f := 44) rfl ?_); refine gL (some 43) Tryd.func44 #[.string t389] ?_; (with_reducible refine (spec_ReadHead.calls k t389 t396 t397 t398 t399 t400 _ A9.out).mono ?_); rintro e w230 ⟨rfl, hb⟩; refine ⟨_, rfl, ?_⟩; replace BK380 := bB BK380 hb; replace BK388 := bB BK388 hb; replace BK395 := bV 34 #[.int .i64 t390, .string t391, .string t392, .string t393] BK395 hb; replace HB := bS HB hb; (try clear hb)) | ((with_reducible refine gate_dst (N := 11) rfl ?_); (try (refine gate_guard (by rfl) ?_; dsimp only)); refine box_event ?hg (N := 11) ?hd (cs := #[.int .i64 0, .string (⟨#[]⟩ : ByteArray), .string (⟨#[]⟩ : ByteArray), .string (⟨#[]⟩ : ByteArray)]) (t := 34) ?hr ?_; (case hd => rfl); (case hg => rfl); (case hr => first | (go_simp; done) | (go_simp; rfl)); intro gb401 hg w231 hbox hb; have BK401 := Aside0.mk (hbox); have GW401 := bG HB hg; have GE401 := bG HB hg; replace HB := bS HB hb; have NB380_401 := bL BK380 hg; have NB401_380 := bR BK380 hg; replace BK380 := bB BK380 hb; have NB388_401 := bL BK388 hg; have NB401_388 := bR BK388 hg; replace BK388 := bB BK388 hb; have NB395_401 := bL BK395 hg; have NB401_395 := bR BK395 hg; replace BK395 := bB BK395 hb; clear hb hbox hg; obtain ⟨hnb232, hnc232⟩ := nB NB401_380; obtain ⟨hnb233, hnc233⟩ := nB NB401_388; obtain ⟨hnb234, hnc234⟩ := nB NB401_395; obtain ⟨hcz235_0, hcz235_1, hcz235_2, hcz235_3, hfz235_0, hfz235_1, hfz235_2, hfz235_3⟩ := bK4 (w := w231) BK401; obtain ⟨hcz236_0, hcz236_1, hcz236_2, hcz236_3, hfz236_0, hfz236_1, hfz236_2, hfz236_3⟩ := bK4 (w := w231) BK395) | ((with_reducible refine gate_callee (f := 41) rfl ?_); refine gL (some 48) Tryd.func41 #[.agg #[.int .i64 t390, .string t391, .string t392, .string t393]] ?_; (with_reducible refine (impl_HeadText.calls k t390 t391 t392 t393 t402 t403 _ A10.out).mono ?_); rintro e w237 ⟨rfl, hb⟩; refine ⟨_, rfl, ?_⟩; replace BK380 := bB BK380 hb; replace BK388 := bB BK388 hb; replace BK395 := bB BK395 hb; replace BK401 := bV 34 #[.int .i64 t396, .string t397, .string t398, .string t399] BK401 hb; replace HB := bS HB hb; (try clear hb)) | ((with_reducible refine gate_callee (f := 45) rfl ?_); refine gL (some 52) Tryd.func45 #[.slice A0 l0.length c0] ?_; (with_reducible refine (spec_DrawHead.calls k _ _ l0 t404 t405 t406 t407 _ ?side1 ?side2 A11.out).mono ?_); (case side1 => exact cP (Kd.C_below HR0.out HB.out)); (case side2 => exact HC0.out); rintro e w238 ⟨rfl, hb⟩; refine ⟨_, rfl, ?_⟩; replace BK380 := bB BK380 hb; replace BK388 := bB BK388 hb; replace BK395 := bB BK395 hb; replace BK401 := bB BK401 hb; replace HB := bS HB hb; (try clear hb)) | ((with_reducible refine gate_dst (N := 15) rfl ?_); (try (refine gate_guard (by rfl) ?_; dsimp only)); refine box_event ?hg (N := 15) ?hd (cs := #[.int .i64 0, .string (⟨#[]⟩ : ByteArray), .string (⟨#[]⟩ : ByteArray), .string (⟨#[]⟩ : ByteArray)]) (t := 34) ?hr ?_; (case hd => rfl); (case hg => rfl); (case hr => first | (go_simp; done) | (go_simp; rfl)); intro gb408 hg w239 hbox hb; have BK408 := Aside0.mk (hbox); have GW408 := bG HB hg; have GE408 := bG HB hg; replace HB := bS HB hb; have NB380_408 := bL BK380 hg; have NB408_380 := bR BK380 hg; replace BK380 := bB BK380 hb; have NB388_408 := bL BK388 hg; have NB408_388 := bR BK388 hg; replace BK388 := bB BK388 hb; have NB395_408 := bL BK395 hg; have NB408_395 := bR BK395 hg; replace BK395 := bB BK395 hb; have NB401_408 := bL BK401 hg; have NB408_401 := bR BK401 hg; replace BK401 := bB BK401 hb; clear hb hbox hg; obtain ⟨hnb240, hnc240⟩ := nB NB408_380; obtain ⟨hnb241, hnc241⟩ := nB NB408_388; obtain ⟨hnb242, hnc242⟩ := nB NB408_395; obtain ⟨hnb243, hnc243⟩ := nB NB408_401; obtain ⟨hcz244_0, hcz244_1, hcz244_2, hcz244_3, hfz244_0, hfz244_1, hfz244_2, hfz244_3⟩ := bK4 (w := w239) BK408) | ((with_reducible refine gate_callee (f := 21) rfl ?_); refine gL (some 54) Tryd.func21 #[.agg #[.int .i64 t404, .string t405, .string t406, .string t407]] ?_; (with_reducible refine (impl_HeadRoot.calls k t404 t405 t406 t407 t409 _ (Kp.Tab.below HT.out (bZ HB)) A12.out).mono ?_); rintro e w245 ⟨rfl, hb⟩; refine ⟨_, rfl, ?_⟩; replace BK380 := bB BK380 hb; replace BK388 := bB BK388 hb; replace BK395 := bB BK395 hb; replace BK401 := bB BK401 hb; replace BK408 := bV 34 #[.int .i64 t404, .string t405, .string t406, .string t407] BK408 hb; replace HB := bS HB hb; (try clear hb); obtain ⟨hcz246_0, hcz246_1, hcz246_2, hcz246_3, hfz246_0, hfz246_1, hfz246_2, hfz246_3⟩ := bK4 (w := w245) BK408) | ((with_reducible refine gate_dst (N := 61) rfl ?_); (try (refine gate_guard (by rfl) ?_; dsimp only)); refine Kd.R_lit Kd.string _ 9 ?hg (N := 61) ?hd (xs := ([(⟨#[]⟩ : ByteArray), t405, t406, t407] : List ByteArray)) (inner := [.string (⟨#[]⟩ : ByteArray), .string t405, .string t406, .string t407]) (ok := fun _ => True) (okp := fun _ => True) ?hr ?hp (fun _ hk => hk) trivial (Below.refl _ _) (Nat.le_refl _) (by simp) ?_; (case hd => rfl); (case hg => rfl); (case hr => first | (go_simp; done) | (go_simp; rfl)); (case hp => exact (Reps.one (show Kd.M Kd.string _ _ _ (⟨#[]⟩ : ByteArray) [.string (⟨#[]⟩ : ByteArray)] from rfl) (Reps.one (show Kd.M Kd.string _ _ _ t405 [.string t405] from rfl) (Reps.one (show Kd.M Kd.string _ _ _ t406 [.string t406] from rfl) (Reps.one (show Kd.M Kd.string _ _ _ t407 [.string t407] from rfl) (Reps.none _ _)))))); intro v411 w247 ho248 hb hg_ hnew_; clear hg_ hnew_; (first | rw [← Ny410.out] at ho248 | (simp only [Int.reduceToNat] at ho248; rw [← Ny410.out] at ho248)); have HO412 := Aside0.mk (Kd.R_lower ho248 (below_size (bZ HB))); replace BK380 := bB BK380 hb; replace BK388 := bB BK388 hb; replace BK395 := bB BK395 hb; replace BK401 := bB BK401 hb; replace BK408 := bB BK408 hb; replace HB := bS HB hb; clear hb ho248; obtain ⟨Ao249, co249, eo249⟩ := Kd.R_slice HO412.out; subst eo249) | ((with_reducible refine gate_callee (f := 22) rfl ?_); refine gL (some 62) Tryd.func22 #[.slice Ao249 y410.length co249, .int .i64 2] ?_; (with_reducible refine (spec_BranchOf.calls k _ _ y410 2 t413 _ ?side1 ?side2 A13.out).mono ?_); (case side1 => exact cP ((Kd.R_reads' HO412.out).2.2)); (case side2 => exact (Kd.R_reads' HO412.out).2.1); rintro e w250 ⟨v414, rfl, ho0, hb⟩; refine ⟨_, rfl, ?_⟩; have HO415 := Aside0.mk (Kd.R_lower (Kd.R_new' ho0 (Kd.R_lt (rP HO412))) (below_size (bZ HB))); replace HO412 := Aside0.mk (Kd.R_elder' (rP HO412) (Kd.R_base ho0) hb); replace BK380 := bB BK380 hb; replace BK388 := bB BK388 hb; replace BK395 := bB BK395 hb; replace BK401 := bB BK401 hb; replace BK408 := bB BK408 hb; replace HB := bS HB hb; (try clear hb); (try clear ho0)) | ((with_reducible refine gate_callee (f := 46) rfl ?_); refine gL (some 65) Tryd.func46 #[.slice A0 l0.length c0] ?_; (with_reducible refine (spec_DrawSigText.calls k _ _ l0 t416 t417 t418 t419 t420 _ ?side1 ?side2 A14.out).mono ?_); (case side1 => exact cP (Kd.C_below HR0.out HB.out)); (case side2 => exact HC0.out); rintro e w251 ⟨rfl, hb⟩; refine ⟨_, rfl, ?_⟩; replace HO412 := Aside0.mk (Kd.R_below (rP HO412) hb); replace HO415 := Aside0.mk (Kd.R_below (rP HO415) hb); replace BK380 := bB BK380 hb; replace BK388 := bB BK388 hb; replace BK395 := bB BK395 hb; replace BK401 := bB BK401 hb; replace BK408 := bB BK408 hb; replace HB := bS HB hb; (try clear hb)) | ((with_reducible refine gate_dst (N := 18) rfl ?_); (try (refine gate_guard (by rfl) ?_; dsimp only)); refine box_event ?hg (N := 18) ?hd (cs := #[.int .i64 0, .string (⟨#[]⟩ : ByteArray), .string (⟨#[]⟩ : ByteArray), .string (⟨#[]⟩ : ByteArray)]) (t := 34) ?hr ?_; (case hd => rfl); (case hg => rfl); (case hr => first | (go_simp; done) | (go_simp; rfl)); intro gb421 hg w252 hbox hb; replace HO412 := Aside0.mk (Kd.R_below (rP HO412) hb); replace HO415 := Aside0.mk (Kd.R_below (rP HO415) hb); have BK421 := Aside0.mk (hbox); have GW421 := bG HB hg; have GE421 := bG HB hg; replace HB := bS HB hb; have NB380_421 := bL BK380 hg; have NB421_380 := bR BK380 hg; replace BK380 := bB BK380 hb; have NB388_421 := bL BK388 hg; have NB421_388 := bR BK388 hg; replace BK388 := bB BK388 hb; have NB395_421 := bL BK395 hg; have NB421_395 := bR BK395 hg; replace BK395 := bB BK395 hb; have NB401_421 := bL BK401 hg; have NB421_401 := bR BK401 hg; replace BK401 := bB BK401 hb; have NB408_421 := bL BK408 hg; have NB421_408 := bR BK408 hg; replace BK408 := bB BK408 hb; clear hb hbox hg; obtain ⟨hnb253, hnc253⟩ := nB NB421_380; obtain ⟨hnb254, hnc254⟩ := nB NB421_388; obtain ⟨hnb255, hnc255⟩ := nB NB421_395; obtain ⟨hnb256, hnc256⟩ := nB NB421_401; obtain ⟨hnb257, hnc257⟩ := nB NB421_408; obtain ⟨hcz258_0, hcz258_1, hcz258_2, hcz258_3, hfz258_0, hfz258_1, hfz258_2, hfz258_3⟩ := bK4 (w := w252) BK421))
           obtain ⟨w259, hW_⟩ : ∃ W_ : World, W_ = ((((w252.setCell ⟨gb421, 0, none⟩ (.int .i64 t416)).setCell ⟨gb421, 1, none⟩ (.string t417)).setCell ⟨gb421, 2, none⟩ (.string t418)).setCell ⟨gb421, 3, none⟩ (.string t419)) := ⟨_, rfl⟩
           have n0_ : Aside0 (Kd.R Kd.string 9 ((((w252.setCell ⟨gb421, 0, none⟩ (.int .i64 t416)).setCell ⟨gb421, 1, none⟩ (.string t417)).setCell ⟨gb421, 2, none⟩ (.string t418)).setCell ⟨gb421, 3, none⟩ (.string t419)) w.heap.size (fun k_ => some k_ ≠ (v414 : Value).ownBlock) (.slice Ao249 y410.length co249) y410) := ⟨by (with_reducible repeat (first | apply Kd.R_alloc | apply Kd.R_drewN | apply Kd.R_drew)); exact Kd.R_mono (Kd.R_far (p := ⟨gb421, 3, none⟩) (Kd.R_far (p := ⟨gb421, 2, none⟩) (Kd.R_far (p := ⟨gb421, 1, none⟩) (Kd.R_far (p := ⟨gb421, 0, none⟩) (Kd.R_types HO412.out BK421.out (by decide)) (fun _ hk => hk.2) (.int .i64 t416)) (fun _ hk => hk.2) (.string t417)) (fun _ hk => hk.2) (.string t418)) (fun _ hk => hk.2) (.string t419)) (fun _ hk => hk.1.2)⟩
           rw [← hW_] at n0_
           have n1_ : Aside0 (Kd.R Kd.string 9 ((((w252.setCell ⟨gb421, 0, none⟩ (.int .i64 t416)).setCell ⟨gb421, 1, none⟩ (.string t417)).setCell ⟨gb421, 2, none⟩ (.string t418)).setCell ⟨gb421, 3, none⟩ (.string t419)) w.heap.size (fun k_ => some k_ ≠ (.slice Ao249 y410.length co249 : Value).ownBlock) v414 t413) := ⟨by (with_reducible repeat (first | apply Kd.R_alloc | apply Kd.R_drewN | apply Kd.R_drew)); exact Kd.R_mono (Kd.R_far (p := ⟨gb421, 3, none⟩) (Kd.R_far (p := ⟨gb421, 2, none⟩) (Kd.R_far (p := ⟨gb421, 1, none⟩) (Kd.R_far (p := ⟨gb421, 0, none⟩) (Kd.R_types HO415.out BK421.out (by decide)) (fun _ hk => hk.2) (.int .i64 t416)) (fun _ hk => hk.2) (.string t417)) (fun _ hk => hk.2) (.string t418)) (fun _ hk => hk.2) (.string t419)) (fun _ hk => hk.1.2)⟩
           rw [← hW_] at n1_
           replace BK380 := bW hW_ BK380
           replace BK388 := bW hW_ BK388
           replace BK395 := bW hW_ BK395
           replace BK401 := bW hW_ BK401
           replace BK408 := bW hW_ BK408
           replace BK421 := bX hW_ 34 #[.int .i64 t416, .string t417, .string t418, .string t419] BK421
           (try clear HO412)
           (try clear HO415)
           have HO412 := n0_
           clear n0_
           have HO415 := n1_
           clear n1_
           replace HB := zW hW_ HB
           rw [← hW_]
           clear hW_
           replace HO412 := Aside0.mk (Kd.R_drew HO412.out)
           replace HO415 := Aside0.mk (Kd.R_drew HO415.out)
           replace BK380 := Aside0.mk (blk_drew BK380.out)
           replace BK388 := Aside0.mk (blk_drew BK388.out)
           replace BK395 := Aside0.mk (blk_drew BK395.out)
           replace BK401 := Aside0.mk (blk_drew BK401.out)
           replace BK408 := Aside0.mk (blk_drew BK408.out)
           replace BK421 := Aside0.mk (blk_drew BK421.out)
           replace HB := Aside0.mk (below_drew1 HB.out)
           refine start_ (n := 68) (S := fun w' => SP4 w' gb380 (.int .i64 t376) (.string t377) (.string t378) (.string t379) (SP4 w' gb408 (.int .i64 t404) (.string t405) (.string t406) (.string t407) (SQ4 w' gb421 (.int .i64 t416) (.string t417) (.string t418) (.string t419)))) (ds := []) #[false, false, false, false, false, false, false, false, false, false, false, false, false, false, false, false, false, false, false, false, false, false, false, false, false, false, false, false, false, false, false, false, false, false, false, false, false, false, false, false, false, false, false, false, false, false, false, false, false, false, false, false, false, false, false, false, false, false, false, false, false, false, false, false, false, false, false, false] (by kernel_rfl) rfl rfl (bS4 BK380 (bS4 BK408 (bT4 BK421))) (fun hHeld => ?_); refine with_tabW laws_FnHeads.tab14 laws_FnHeads.bits14 (fun HT_ HW_ => ?_)
           generalize w259.drew = w260 at HO412 HO415 BK380 BK388 BK395 BK401 BK408 BK421 HB hHeld ⊢
           refine pI 0 (some 68) HT_.out ?_
           refine tI12 1 (some 69) HT_.out HW_.out hHeld ?_
           refine oI 2 (some 70) HT_.out (fun K hK => ?_)
           refine gO Tryd.func47 #[.agg #[.int .i64 t376, .string t377, .string t378, .string t379]] ?_
           with_reducible refine (spec_HeadOk.calls t376 t377 t378 t379 t422 _ A15.out).mono ?_
           rintro e w261 ⟨rfl, hb⟩
           refine ⟨_, rfl, ?_⟩
           replace HO412 := Aside0.mk (Kd.R_below (rP HO412) hb)
           replace HO415 := Aside0.mk (Kd.R_below (rP HO415) hb)
           replace BK380 := bB BK380 hb
           replace BK388 := bB BK388 hb
           replace BK395 := bB BK395 hb
           replace BK401 := bB BK401 hb
           replace BK408 := bB BK408 hb
           replace BK421 := bB BK421 hb
           replace HB := bS HB hb
           (try clear hb)
           refine hK.out _ _ (bS4 BK380 (bS4 BK408 (bT4 BK421))) (fun hHeld => ?_)
           clear hK K
           refine nO (some 70) ?_
           refine pI 3 (some 71) HT_.out ?_
           refine pI 4 (some 72) HT_.out ?_
           refine pI 7 (some 75) HT_.out ?_
           refine tI12 5 (some 73) HT_.out HW_.out hHeld ?_
           refine oI 6 (some 74) HT_.out (fun K hK => ?_)
           refine gO Tryd.func48 #[.agg #[.int .i64 t376, .string t377, .string t378, .string t379]] ?_
           with_reducible refine (impl_HeadOk.calls t376 t377 t378 t379 t423 _ A17.out).mono ?_
           rintro e w262 ⟨rfl, hb⟩
           refine ⟨_, rfl, ?_⟩
           replace HO412 := Aside0.mk (Kd.R_below (rP HO412) hb)
           replace HO415 := Aside0.mk (Kd.R_below (rP HO415) hb)
           replace BK380 := bB BK380 hb
           replace BK388 := bB BK388 hb
           replace BK395 := bB BK395 hb
           replace BK401 := bB BK401 hb
           replace BK408 := bB BK408 hb
           replace BK421 := bB BK421 hb
           replace HB := bS HB hb
           (try clear hb)
           obtain ⟨Ao263, co263, eo263⟩ := Kd.R_slice HO415.out
           (first | subst eo263 | (injection eo263 with f1_ f2_ f3_; have f4_ := f1_.symm; have f5_ := f3_.symm; clear f1_ f2_ f3_; subst f4_; subst f5_))
           refine hK.out _ _ (bS4 BK380 (bS4 BK408 (bT4 BK421))) (fun hHeld => ?_)
           clear hK K
           refine nO (some 74) ?_
           refine pI 8 (some 76) HT_.out ?_
           refine pI 9 (some 77) HT_.out ?_
           refine pI 10 (some 78) HT_.out ?_
           refine pI 11 (some 79) HT_.out ?_
           refine pI 12 (some 80) HT_.out ?_
           refine pI 13 (some 81) HT_.out ?_
           refine pure_ (i := 14) (N := some 82) (v := undef) (a' := ?_) #[true, true, true, true, true, true, true, true, true, true, true, true, true, true, true, false, false, false, false, false, false, false, false, false, false, false, false, false, false, false, false, false, false, false, false, false, false, false, false, false, false, false, false, false, false, false, false, false, false, false, false, false, false, false, false, false, false, false, false, false, false, false, false, false, false, false, false, false] rfl rfl (any_of HT_.out (by kernel_rfl)) (fun _ _ _ h => h) (Or.inr ⟨by rfl, rfl⟩) ?_ ?_
           rotate_left
           ·simp only [Act.put, List.setIfInBounds_toArray, List.set_cons_zero, List.set_cons_succ, i64_w, i32_w]
            rfl
           refine pure_ (i := 15) (N := some 83) (v := undef) (a' := ?_) #[true, true, true, true, true, true, true, true, true, true, true, true, true, true, true, true, false, false, false, false, false, false, false, false, false, false, false, false, false, false, false, false, false, false, false, false, false, false, false, false, false, false, false, false, false, false, false, false, false, false, false, false, false, false, false, false, false, false, false, false, false, false, false, false, false, false, false, false] rfl rfl (any_of HT_.out (by kernel_rfl)) (fun _ _ _ h => h) (Or.inr ⟨by rfl, rfl⟩) ?_ ?_
           rotate_left
           ·simp only [Act.put, List.setIfInBounds_toArray, List.set_cons_zero, List.set_cons_succ, i64_w, i32_w]
            rfl
           refine pure_ (i := 16) (N := some 84) (v := undef) (a' := ?_) #[true, true, true, true, true, true, true, true, true, true, true, true, true, true, true, true, true, false, false, false, false, false, false, false, false, false, false, false, false, false, false, false, false, false, false, false, false, false, false, false, false, false, false, false, false, false, false, false, false, false, false, false, false, false, false, false, false, false, false, false, false, false, false, false, false, false, false, false] rfl rfl (any_of HT_.out (by kernel_rfl)) (fun _ _ _ h => h) (Or.inr ⟨by rfl, rfl⟩) ?_ ?_
           rotate_left
           ·simp only [Act.put, List.setIfInBounds_toArray, List.set_cons_zero, List.set_cons_succ, i64_w, i32_w]
            rfl
           refine pure_ (i := 17) (N := some 85) (v := undef) (a' := ?_) #[true, true, true, true, true, true, true, true, true, true, true, true, true, true, true, true, true, true, false, false, false, false, false, false, false, false, false, false, false, false, false, false, false, false, false, false, false, false, false, false, false, false, false, false, false, false, false, false, false, false, false, false, false, false, false, false, false, false, false, false, false, false, false, false, false, false, false, false] rfl rfl (any_of HT_.out (by kernel_rfl)) (fun _ _ _ h => h) (Or.inr ⟨by rfl, rfl⟩) ?_ ?_
           rotate_left
           ·simp only [Act.put, List.setIfInBounds_toArray, List.set_cons_zero, List.set_cons_succ, i64_w, i32_w]
            rfl
           refine pure_ (i := 18) (N := some 86) (v := undef) (a' := ?_) #[true, true, true, true, true, true, true, true, true, true, true, true, true, true, true, true, true, true, true, false, false, false, false, false, false, false, false, false, false, false, false, false, false, false, false, false, false, false, false, false, false, false, false, false, false, false, false, false, false, false, false, false, false, false, false, false, false, false, false, false, false, false, false, false, false, false, false, false] rfl rfl (any_of HT_.out (by kernel_rfl)) (fun _ _ _ h => h) (Or.inr ⟨by rfl, rfl⟩) ?_ ?_
           rotate_left
           ·simp only [Act.put, List.setIfInBounds_toArray, List.set_cons_zero, List.set_cons_succ, i64_w, i32_w]
            rfl
           refine pure_ (i := 19) (N := some 87) (v := undef) (a' := ?_) #[true, true, true, true, true, true, true, true, true, true, true, true, true, true, true, true, true, true, true, true, false, false, false, false, false, false, false, false, false, false, false, false, false, false, false, false, false, false, false, false, false, false, false, false, false, false, false, false, false, false, false, false, false, false, false, false, false, false, false, false, false, false, false, false, false, false, false, false] rfl rfl (any_of HT_.out (by kernel_rfl)) (fun _ _ _ h => h) (Or.inr ⟨by rfl, rfl⟩) ?_ ?_
           rotate_left
           ·simp only [Act.put, List.setIfInBounds_toArray, List.set_cons_zero, List.set_cons_succ, i64_w, i32_w]
            rfl
           refine pI 20 (some 88) HT_.out ?_
           refine pI 21 (some 89) HT_.out ?_
           refine pI 22 (some 90) HT_.out ?_
           refine pI 23 (some 91) HT_.out ?_
           refine pI 24 (some 92) HT_.out ?_
           refine pI 25 (some 93) HT_.out ?_
           refine pI 26 (some 94) HT_.out ?_
           refine pI 27 (some 95) HT_.out ?_
           refine pI 28 (some 96) HT_.out ?_
           refine pI 29 (some 97) HT_.out ?_
           refine pI 30 (some 98) HT_.out ?_
           refine pure_ (i := 31) (N := some 99) (v := undef) (a' := ?_) #[true, true, true, true, true, true, true, true, true, true, true, true, true, true, true, true, true, true, true, true, true, true, true, true, true, true, true, true, true, true, true, true, false, false, false, false, false, false, false, false, false, false, false, false, false, false, false, false, false, false, false, false, false, false, false, false, false, false, false, false, false, false, false, false, false, false, false, false] rfl rfl (any_of HT_.out (by kernel_rfl)) (fun _ _ _ h => h) (Or.inr ⟨by rfl, rfl⟩) ?_ ?_
           rotate_left
           ·simp only [Act.put, List.setIfInBounds_toArray, List.set_cons_zero, List.set_cons_succ, i64_w, i32_w]
            rfl
           refine pure_ (i := 32) (N := some 100) (v := undef) (a' := ?_) #[true, true, true, true, true, true, true, true, true, true, true, true, true, true, true, true, true, true, true, true, true, true, true, true, true, true, true, true, true, true, true, true, true, false, false, false, false, false, false, false, false, false, false, false, false, false, false, false, false, false, false, false, false, false, false, false, false, false, false, false, false, false, false, false, false, false, false, false] rfl rfl (any_of HT_.out (by kernel_rfl)) (fun _ _ _ h => h) (Or.inr ⟨by rfl, rfl⟩) ?_ ?_
           rotate_left
           ·simp only [Act.put, List.setIfInBounds_toArray, List.set_cons_zero, List.set_cons_succ, i64_w, i32_w]
            rfl
           refine pure_ (i := 33) (N := some 101) (v := undef) (a' := ?_) #[true, true, true, true, true, true, true, true, true, true, true, true, true, true, true, true, true, true, true, true, true, true, true, true, true, true, true, true, true, true, true, true, true, true, false, false, false, false, false, false, false, false, false, false, false, false, false, false, false, false, false, false, false, false, false, false, false, false, false, false, false, false, false, false, false, false, false, false] rfl rfl (any_of HT_.out (by kernel_rfl)) (fun _ _ _ h => h) (Or.inr ⟨by rfl, rfl⟩) ?_ ?_
           rotate_left
           ·simp only [Act.put, List.setIfInBounds_toArray, List.set_cons_zero, List.set_cons_succ, i64_w, i32_w]
            rfl
           refine pI 34 (some 102) HT_.out ?_
           refine pI 35 (some 103) HT_.out ?_
           refine pI 36 (some 104) HT_.out ?_
           refine pI 37 (some 105) HT_.out ?_
           refine pI 38 (some 106) HT_.out ?_
           refine pI 39 (some 107) HT_.out ?_
           refine pI 40 (some 108) HT_.out ?_
           refine pI 41 (some 109) HT_.out ?_
           refine pI 42 (some 110) HT_.out ?_
           refine pI 43 (some 111) HT_.out ?_
           refine pI 44 (some 112) HT_.out ?_
           refine pI 45 (some 113) HT_.out ?_
           refine pI 46 (some 114) HT_.out ?_
           refine pI 47 (some 115) HT_.out ?_
           refine tI12 48 (some 116) HT_.out HW_.out hHeld ?_
           refine oI 49 (some 117) HT_.out (fun K hK => ?_)
           refine gO Tryd.func19 #[.agg #[.int .i64 t404, .string t405, .string t406, .string t407]] ?_
           with_reducible refine (spec_HeadRoot.calls k t404 t405 t406 t407 t436 _ A210.out).mono ?_
           rintro e w264 ⟨rfl, hb⟩
           refine ⟨_, rfl, ?_⟩
           replace HO412 := Aside0.mk (Kd.R_below (rP HO412) hb)
           replace HO415 := Aside0.mk (Kd.R_below (rP HO415) hb)
           replace BK380 := bB BK380 hb
           replace BK388 := bB BK388 hb
           replace BK395 := bB BK395 hb
           replace BK401 := bB BK401 hb
           replace BK408 := bB BK408 hb
           replace BK421 := bB BK421 hb
           replace HB := bS HB hb
           (try clear hb)
           refine hK.out _ _ (bS4 BK380 (bS4 BK408 (bT4 BK421))) (fun hHeld => ?_)
           clear hK K
           refine nO (some 117) ?_
           refine pI 50 (some 118) HT_.out ?_
           refine pI 51 (some 119) HT_.out ?_
           refine pI 52 (some 120) HT_.out ?_
           refine pI 54 (some 122) HT_.out ?_
           refine pI 57 (some 125) HT_.out ?_
           refine tI12 53 (some 121) HT_.out HW_.out hHeld ?_
           refine tI12 56 (some 124) HT_.out HW_.out hHeld ?_
           refine oI 55 (some 123) HT_.out (fun K hK => ?_)
           refine gO Tryd.func32 #[.agg #[.int .i64 t416, .string t417, .string t418, .string t419], .int .i64 t420] ?_
           with_reducible refine (impl_SigText.calls k t416 t417 t418 t419 t420 t437 _ (Kp.Tab.below HT.out (bZ HB)) A212.out).mono ?_
           rintro e w265 ⟨rfl, hb⟩
           refine ⟨_, rfl, ?_⟩
           replace HO412 := Aside0.mk (Kd.R_below (rP HO412) hb)
           replace HO415 := Aside0.mk (Kd.R_below (rP HO415) hb)
           replace BK380 := bB BK380 hb
           replace BK388 := bB BK388 hb
           replace BK395 := bB BK395 hb
           replace BK401 := bB BK401 hb
           replace BK408 := bB BK408 hb
           replace BK421 := bB BK421 hb
           replace HB := bS HB hb
           (try clear hb)
           refine hK.out _ _ (bS4 BK380 (bS4 BK408 (bT4 BK421))) (fun hHeld => ?_)
           clear hK K
           refine nO (some 123) ?_
           refine oI 58 (some 126) HT_.out (fun K hK => ?_)
           refine gO Tryd.func31 #[.agg #[.int .i64 t416, .string t417, .string t418, .string t419], .int .i64 t420] ?_
           with_reducible refine (spec_SigText.calls k t416 t417 t418 t419 t420 t438 _ A213.out).mono ?_
           rintro e w266 ⟨rfl, hb⟩
           refine ⟨_, rfl, ?_⟩
           replace HO412 := Aside0.mk (Kd.R_below (rP HO412) hb)
           replace HO415 := Aside0.mk (Kd.R_below (rP HO415) hb)
           replace BK380 := bB BK380 hb
           replace BK388 := bB BK388 hb
           replace BK395 := bB BK395 hb
           replace BK401 := bB BK401 hb
           replace BK408 := bB BK408 hb
           replace BK421 := bB BK421 hb
           replace HB := bS HB hb
           (try clear hb)
           refine hK.out _ _ (bS4 BK380 (bS4 BK408 (bT4 BK421))) (fun hHeld => ?_)
           clear hK K
           refine nO (some 126) ?_
           refine pI 59 (some 127) HT_.out ?_
           refine pI 60 (some 128) HT_.out ?_
           refine pI 61 (some 129) HT_.out ?_
           refine tI12 62 (some 130) HT_.out HW_.out hHeld ?_
           refine oI 63 (some 131) HT_.out (fun K hK => ?_)
           refine gO Tryd.func32 #[.agg #[.int .i64 t404, .string t405, .string t406, .string t407], .int .i64 7] ?_
           with_reducible refine (impl_SigText.calls k t404 t405 t406 t407 7 t439 _ (Kp.Tab.below HT.out (bZ HB)) A215.out).mono ?_
           rintro e w267 ⟨rfl, hb⟩
           refine ⟨_, rfl, ?_⟩
           replace HO412 := Aside0.mk (Kd.R_below (rP HO412) hb)
           replace HO415 := Aside0.mk (Kd.R_below (rP HO415) hb)
           replace BK380 := bB BK380 hb
           replace BK388 := bB BK388 hb
           replace BK395 := bB BK395 hb
           replace BK401 := bB BK401 hb
           replace BK408 := bB BK408 hb
           replace BK421 := bB BK421 hb
           replace HB := bS HB hb
           (try clear hb)
           refine hK.out _ _ (bS4 BK380 (bS4 BK408 (bT4 BK421))) (fun hHeld => ?_)
           clear hK K
           refine nO (some 131) ?_
           refine pI 64 (some 132) HT_.out ?_
           refine pI 65 (some 133) HT_.out ?_
           refine pI 66 (some 134) HT_.out ?_
           refine pI 67 (some 2) HT_.out ?_
           refine done_ (done_of HT_.out (by kernel_rfl)) ?_
           try go_wp2
           go_ret
           exact ⟨rR, bZ HB⟩
          ·rw [if_neg c214] at H
           have c214b0 : (t437.toList == t438.toList) = false := beq_eq_false_iff_ne.mpr c214
           have c214b1 : (t437.toList != t438.toList) = true := bne_iff_ne.mpr c214
           exact absurd (Option.some.inj H) (by rw [htrue.out]; exact Bool.false_ne_true)
         ·rw [if_neg c211] at H
          have c211b0 : (t409.toList == t436.toList) = false := beq_eq_false_iff_ne.mpr c211
          have c211b1 : (t409.toList != t436.toList) = true := bne_iff_ne.mpr c211
          exact absurd (Option.some.inj H) (by rw [htrue.out]; exact Bool.false_ne_true)
        ·rw [if_neg c209] at H
         have c209b0 : ((t409.size : Int) == 32) = false := beq_eq_false_iff_ne.mpr c209
         have c209b1 : ((t409.size : Int) != 32) = true := bne_iff_ne.mpr c209
         exact absurd (Option.some.inj H) (by rw [htrue.out]; exact Bool.false_ne_true)
       ·rw [if_neg c208] at H
        have c208b0 : ((t413.length : Int) == 2) = false := beq_eq_false_iff_ne.mpr c208
        have c208b1 : ((t413.length : Int) != 2) = true := bne_iff_ne.mpr c208
        exact absurd (Option.some.inj H) (by rw [htrue.out]; exact Bool.false_ne_true)
     ·rw [if_neg c145] at H
      have c145b0 : (t394 == t400) = false := by simpa using c145
      (try (have c145b1 : decide (t394 = t400) = false := by simpa using c145))
      (try (have c145b2 : (t394 == t400) = false := by simpa using c145))
      (try (have c145b3 : ¬ (t394 = t400) := by simpa using c145))
      clear c145
      exact absurd (Option.some.inj H) (by rw [htrue.out]; exact Bool.false_ne_true)
   ·rw [if_neg c18] at H
    have c18b0 : (t423 == t382) = false := by simpa using c18
    (try (have c18b1 : decide (t423 = t382) = false := by simpa using c18))
    (try (have c18b2 : (t423 == t382) = false := by simpa using c18))
    (try (have c18b3 : ¬ (t423 = t382) := by simpa using c18))
    clear c18
    exact absurd (Option.some.inj H) (by rw [htrue.out]; exact Bool.false_ne_true)
  ·rw [if_neg c16] at H
   have c16b0 : (t382 == t422) = false := by simpa using c16
   (try (have c16b1 : decide (t382 = t422) = false := by simpa using c16))
   (try (have c16b2 : (t382 == t422) = false := by simpa using c16))
   (try (have c16b3 : ¬ (t382 = t422) := by simpa using c16))
   clear c16
   exact absurd (Option.some.inj H) (by rw [htrue.out]; exact Bool.false_ne_true)

/-- THE ONE PURE STATEMENT of laws_FnHeads. -/
def laws_FnHeads.Pure : Prop := ∀ (l0 : List Int), (l0.length ≤ 9223372036854775807 ∧ ∀ y1 ∈ l0, (Lit.int .u8 y1).wf = true) → ∃ k, laws_FnHeads.f k l0 = some true
end Go.Proofs.YtmiiknkfhiecgaaDoor.Pf
end
section
/- What is proved here: the digest of a text is 32 bytes, the same by the program and by the reference; so is the digest of a pair. No conditions but that the texts are no longer than 100000000 bytes. -/
set_option linter.unusedVariables false
set_option linter.unusedSimpArgs false
namespace Go.Proofs.YtmiiknkfhiecgaaDoor.Tree
open Go.RowKit Go.Proofs.YtmiiknkfhiecgaaDoor.Pf Go.Proofs.YtmiiknkfhiecgaaDoorW.PrintWords
def D (t : ByteArray) : ByteArray := Kp.digI t
theorem D_size (t : ByteArray) : (D t).size = 32 := by
  unfold D Kp.digI
  rw [ByteArray.size_extract, Kp.tx_size]
  decide
theorem impl_D {t : ByteArray} (h : t.size ≤ 100000000) : impl_Digest.f t = some (D t) := by
  unfold impl_Digest.f Kp.impl_Digest.f
  rw [if_pos (by omega)]
  rfl
theorem spec_D {t : ByteArray} (h : t.size ≤ 100000000) : spec_Digest.f t = some (D t) := by
  rw [← impl_D h]
  exact (Kp.digest_eq t).symm
theorem impl_pair {a b : ByteArray} (ha : a.size ≤ 40000000) (hb : b.size ≤ 40000000) : impl_DigestPair.f a b = some (D (a ++ b)) := by
  unfold impl_DigestPair.f
  rw [if_pos (by omega), impl_D (by rw [ByteArray.size_append]; omega)]
  rfl
theorem spec_pair {a b : ByteArray} (ha : a.size ≤ 40000000) (hb : b.size ≤ 40000000) : spec_DigestPair.f a b = some (D (a ++ b)) := by
  unfold spec_DigestPair.f
  rw [if_pos (by omega), spec_D (by rw [ByteArray.size_append]; omega)]
  rfl
attribute [irreducible] D
end Go.Proofs.YtmiiknkfhiecgaaDoor.Tree
end
section
/- What is proved here: what the laws' own helpers over lists of texts answer (equal lists are equal, a copy is the list, the size taken bounds all). No conditions but that a list is no longer than a Go slice can be. -/
set_option linter.unusedVariables false
set_option linter.unusedSimpArgs false
namespace Go.Proofs.YtmiiknkfhiecgaaDoor.Strs
open Go.RowKit Go.Proofs.YtmiiknkfhiecgaaDoor.Pf Go.Proofs.YtmiiknkfhiecgaaDoorW.PrintWords

theorem wrap_in {i : Int} (h0 : -9223372036854775808 ≤ i) (h : i ≤ 9223372036854775807) : wrap64 i = i := by
  unfold wrap64; omega
theorem rdOf_get {xs : List ByteArray} {i : Nat} (h : i < xs.length) : rdOf ByteArray.empty xs (i : Int) = xs[i] := by
  unfold rdOf
  rw [Int.toNat_natCast, List.getD_eq_getElem?_getD, List.getElem?_eq_getElem h]
  rfl

def total (xs : List ByteArray) : Nat := (xs.map ByteArray.size).sum
theorem total_cons (x : ByteArray) (xs : List ByteArray) : total (x :: xs) = x.size + total xs := by simp [total]
theorem total_mem {x : ByteArray} {xs : List ByteArray} (h : x ∈ xs) : x.size ≤ total xs := by
  induction xs with
  | nil => simp at h
  | cons y ys ih =>
    rw [total_cons]
    rcases List.mem_cons.1 h with rfl | h
    · omega
    · have := ih h; omega
end Go.Proofs.YtmiiknkfhiecgaaDoor.Strs
end
section
/- What is proved here: what FoldBranch answers, as the program and as the reference write it. No conditions but that the texts are no longer than 2^20 bytes. -/
set_option linter.unusedVariables false
set_option linter.unusedSimpArgs false
namespace Go.Proofs.YtmiiknkfhiecgaaDoor.Tree
open Go.RowKit Go.Proofs.YtmiiknkfhiecgaaDoor.Pf Go.Proofs.YtmiiknkfhiecgaaDoorW.PrintWords Go.Proofs.YtmiiknkfhiecgaaDoor.Strs
theorem pow_small {n : Nat} (h : n ≤ 5) : 1 ≤ 2 ^ n ∧ 2 ^ n ≤ 32 := by
  have : ∀ m : Nat, m < 6 → 1 ≤ 2 ^ m ∧ 2 ^ m ≤ 32 := by decide
  exact this n (by omega)
theorem l01In_f (a b c : Int) : spec_l01In.f a b c = some (decide (b ≤ a ∧ a ≤ c)) := by
  unfold spec_l01In.f
  by_cases h : a ≥ b
  · rw [if_pos h]; congr 1; apply decide_eq_decide.2; omega
  · rw [if_neg h, decide_eq_false (by omega)]
end Go.Proofs.YtmiiknkfhiecgaaDoor.Tree
end
section
/- What is proved here: the levels of a tree of digests, its root and its branches, as the program and as the reference write them. No conditions but that there are 32 leaves at most, none longer than 2^20 bytes. -/
set_option linter.unusedVariables false
set_option linter.unusedSimpArgs false
namespace Go.Proofs.YtmiiknkfhiecgaaDoor.Tree
open Go.RowKit Go.Proofs.YtmiiknkfhiecgaaDoor.Pf Go.Proofs.YtmiiknkfhiecgaaDoorW.PrintWords Go.Proofs.YtmiiknkfhiecgaaDoor.Strs
abbrev BA := ByteArray
/-- The digests of the pairs. -/
def up1 : List BA → List BA
  | a :: b :: r => D (a ++ b) :: up1 r
  | _ => []
theorem up1_length : ∀ (n : Nat) (x : List BA), x.length = 2 * n → (up1 x).length = n
  | 0, [], _ => rfl
  | n + 1, a :: b :: r, h => by
    have := up1_length n r (by simp only [List.length_cons] at h; omega)
    simp [up1, this]
theorem up1_get : ∀ (n : Nat) (x : List BA), x.length = 2 * n → ∀ i (h : i < n) (h1 : i < (up1 x).length) (h2 : 2 * i < x.length) (h3 : 2 * i + 1 < x.length), (up1 x)[i] = D (x[2 * i] ++ x[2 * i + 1])
  | 0, _, _, i, h, _, _, _ => by omega
  | n + 1, a :: b :: r, hl, i, h, h1, h2, h3 => by
    match i with
    | 0 => rfl
    | i + 1 =>
      have hl' : r.length = 2 * n := by simp only [List.length_cons] at hl; omega
      have e := up1_get n r hl' i (by omega) (by rw [up1_length n r hl']; omega) (by omega) (by omega)
      simp only [up1, List.getElem_cons_succ]
      rw [e]
      simp only [show 2 * (i + 1) = 2 * i + 1 + 1 by omega, List.getElem_cons_succ]
theorem up1_size : ∀ (n : Nat) (x : List BA), x.length = 2 * n → ∀ y ∈ up1 x, y.size = 32
  | 0, [], _, y, hy => by simp [up1] at hy
  | n + 1, a :: b :: r, h, y, hy => by
    simp only [up1, List.mem_cons] at hy
    rcases hy with rfl | hy
    · exact D_size _
    · exact up1_size n r (by simp only [List.length_cons] at h; omega) y hy
def levels : Nat → List BA → List (List BA)
  | 0, x => [x]
  | j + 1, x => x :: levels j (up1 x)
def tops : Nat → List BA → List BA
  | 0, x => x
  | j + 1, x => tops j (up1 x)
def lows : Nat → List BA → List (List BA)
  | 0, _ => []
  | j + 1, x => x :: lows j (up1 x)
theorem levels_split (j : Nat) : ∀ x, levels j x = lows j x ++ [tops j x] := by
  induction j with
  | zero => intro x; rfl
  | succ j ih => intro x; simp only [levels, lows, tops, ih, List.cons_append]
theorem lows_length (j : Nat) : ∀ x, (lows j x).length = j := by
  induction j with
  | zero => intro x; rfl
  | succ j ih => intro x; simp only [lows, List.length_cons, ih]
theorem tops_length (j : Nat) : ∀ x : List BA, x.length = 2 ^ j → (tops j x).length = 1 := by
  induction j with
  | zero => intro x h; exact h
  | succ j ih => intro x h; exact ih _ (up1_length (2 ^ j) x (by rw [h, Nat.pow_succ]; omega))
theorem tops_size (j : Nat) : ∀ x : List BA, x.length = 2 ^ j → (∀ y ∈ x, y.size = 32) → ∀ y ∈ tops j x, y.size = 32 := by
  induction j with
  | zero => intro x h hs; exact hs
  | succ j ih => intro x h hs; have hl : x.length = 2 * 2 ^ j := by (rw [h, Nat.pow_succ]; omega)
                 exact ih _ (up1_length (2 ^ j) x hl) (up1_size (2 ^ j) x hl)
theorem l3_up (k : Nat) (x6 : List (List BA)) (x3 : List BA) (n : Nat) (hn : x3.length = 2 * n) (hn2 : n ≤ 1000) (hs : ∀ y ∈ x3, y.size = 32) (h6 : x6.length ≤ 1000) (d : Nat) : ∀ i, i + d = n →
    impl_levelsOfTree.l3 (k + d + 1) x6 x3 ((up1 x3).take i) ((2 * i : Nat) : Int) = impl_levelsOfTree.l2 k (x6 ++ [up1 x3]) (up1 x3) := by
  have hl := up1_length n x3 hn
  induction d with
  | zero =>
    intro i hi
    simp only [impl_levelsOfTree.l3, Nat.add_zero]
    rw [if_neg (by omega), if_pos (by omega), List.take_of_length_le (by omega)]
  | succ d ih =>
    intro i hi
    have h1 : 2 * i < x3.length := by omega
    have h2 : 2 * i + 1 < x3.length := by omega
    rw [show k + (d + 1) + 1 = (k + d + 1) + 1 by omega]
    simp only [impl_levelsOfTree.l3]
    have e1 : wrap64 (((2 * i : Nat) : Int) + 1) = ((2 * i + 1 : Nat) : Int) := by rw [wrap_in (by omega) (by omega)]; omega
    have e2 : wrap64 (((2 * i : Nat) : Int) + 2) = ((2 * (i + 1) : Nat) : Int) := by rw [wrap_in (by omega) (by omega)]; omega
    rw [if_pos (by omega), if_pos (by omega), e1, if_pos (by omega), if_pos (by omega), rdOf_get h1, rdOf_get h2, impl_pair (by rw [hs _ (List.getElem_mem h1)]; omega) (by rw [hs _ (List.getElem_mem h2)]; omega), Option.bind_some,
      if_pos (by rw [List.length_take]; omega), e2]
    have hg := up1_get n x3 hn i (by omega) (by omega) h1 h2
    rw [← hg, ← List.take_succ_eq_append_getElem (by omega)]
    exact ih (i + 1) (by omega)
theorem l2_levels (j : Nat) : ∀ (pre : List (List BA)) (x : List BA), j ≤ 5 → x.length = 2 ^ j → pre.length + j ≤ 100 → (∀ y ∈ x, y.size = 32) → ∀ k, 40 * (j + 1) ≤ k → impl_levelsOfTree.l2 k (pre ++ [x]) x = some (pre ++ levels j x) := by
  induction j with
  | zero =>
    intro pre x hj hx hp hs k hk
    obtain ⟨k, rfl⟩ : ∃ m, k = m + 1 := ⟨k - 1, by omega⟩
    simp only [impl_levelsOfTree.l2]
    rw [if_neg (by rw [hx]; decide)]
    rfl
  | succ j ih =>
    intro pre x hj hx hp hs k hk
    have hpj := pow_small (show j ≤ 5 by omega)
    have hx2 : x.length = 2 * 2 ^ j := by rw [hx, Nat.pow_succ]; omega
    obtain ⟨k, rfl⟩ : ∃ m, k = (m + 2 ^ j + 1) + 1 := ⟨k - 2 ^ j - 2, by omega⟩
    simp only [impl_levelsOfTree.l2]
    rw [if_pos (by omega)]
    have h3 := l3_up k (pre ++ [x]) x (2 ^ j) hx2 (by omega) hs (by simp; omega) (2 ^ j) 0 (by omega)
    rw [List.take_zero] at h3
    have h3' : impl_levelsOfTree.l3 (k + 2 ^ j + 1) (pre ++ [x]) x [] 0 = impl_levelsOfTree.l2 k (pre ++ [x] ++ [up1 x]) (up1 x) := h3
    rw [h3', ih (pre ++ [x]) (up1 x) (by omega) (up1_length _ _ hx2) (by simp; omega) (up1_size _ _ hx2) k (by omega)]
    simp [levels]
/-- The least power of two that is no less than n (and 1 for 0), for n ≤ 32; its exponent. -/
def lg (n : Nat) : Nat := if n ≤ 1 then 0 else if n ≤ 2 then 1 else if n ≤ 4 then 2 else if n ≤ 8 then 3 else if n ≤ 16 then 4 else 5
theorem np_facts : ∀ m : Nat, m < 33 → m ≤ 2 ^ lg m ∧ lg m ≤ 5 ∧ (m ≠ 0 → ((Go.bits .and .i64 (m : Int) (wrap64 ((m : Int) - 1))) = 0 ↔ 2 ^ lg m = m)) ∧ (2 ^ lg m ≠ m → lg (m + 1) = lg m) := by decide +kernel
def hashes (l : List BA) : List BA := l.map D ++ List.replicate (2 ^ lg l.length - l.length) (D ByteArray.empty)
theorem hashes_length {l : List BA} (h : l.length ≤ 32) : (hashes l).length = 2 ^ lg l.length := by
  have := (np_facts l.length (by omega)).1
  simp [hashes]; omega
theorem hashes_size (l : List BA) : ∀ y ∈ hashes l, y.size = 32 := by
  intro y hy
  unfold hashes at hy
  rcases List.mem_append.1 hy with hy | hy
  · obtain ⟨z, _, rfl⟩ := List.mem_map.1 hy
    exact D_size _
  · rw [(List.mem_replicate.1 hy).2]
    exact D_size _
theorem l1_pad (k : Nat) (d : Nat) : ∀ (x : List BA), x.length ≤ 32 → x.length + d = 2 ^ lg x.length → impl_levelsOfTree.l1 (k + d + 1) x = impl_levelsOfTree.l2 k [x ++ List.replicate d (D ByteArray.empty)] (x ++ List.replicate d (D ByteArray.empty)) := by
  induction d with
  | zero =>
    intro x hx hd
    obtain ⟨_, _, h1, _⟩ := np_facts x.length (by omega)
    have h0 : x.length ≠ 0 := by intro e; rw [e] at hd; exact absurd hd (by decide)
    simp only [impl_levelsOfTree.l1, Nat.add_zero]
    rw [if_neg (by omega), if_pos ((h1 h0).2 (by omega))]
    simp
  | succ d ih =>
    intro x hx hd
    obtain ⟨_, h5, h1, h2⟩ := np_facts x.length (by omega)
    have hp := pow_small h5
    have e2 := h2 (by omega)
    have hr : x ++ List.replicate (d + 1) (D ByteArray.empty) = (x ++ [D ByteArray.empty]) ++ List.replicate d (D ByteArray.empty) := by
      rw [List.replicate_succ, List.append_assoc, List.singleton_append]
    have hl : (x ++ [D ByteArray.empty]).length = x.length + 1 := by simp
    have hi := ih (x ++ [D ByteArray.empty]) (by omega) (by rw [hl, e2]; omega)
    rw [show k + (d + 1) + 1 = (k + d + 1) + 1 by omega, impl_levelsOfTree.l1]
    have hD : impl_Digest.f (⟨#[]⟩ : ByteArray) = some (D ByteArray.empty) := impl_D (t := ByteArray.empty) (by decide)
    have hx8 : x.length < 8796093022208 := by omega
    rw [hr, ← hi]
    have hc : ∀ a b : Option (List (List BA)), (if (x.length : Int) = 0 then a else if (Go.bits .and .i64 (x.length : Int) (wrap64 ((x.length : Int) - 1))) = 0 then b else a) = a := by
      intro a b
      by_cases c : (x.length : Int) = 0
      · rw [if_pos c]
      · rw [if_neg c, if_neg (fun e => by have := (h1 (by omega)).1 e; omega)]
    rw [hD, Option.bind_some, if_pos hx8, hc]
theorem l0_map (k : Nat) (l : List BA) (hl : l.length ≤ 32) (hs : ∀ y ∈ l, y.size ≤ 1048576) (d : Nat) : ∀ i, i + d = l.length → impl_levelsOfTree.l0 (k + d + 1) ((l.take i).map D) l (l.length : Int) (i : Int) = impl_levelsOfTree.l1 k (l.map D) := by
  induction d with
  | zero =>
    intro i hi
    simp only [impl_levelsOfTree.l0, Nat.add_zero]
    rw [if_neg (by omega), List.take_of_length_le (by omega)]
  | succ d ih =>
    intro i hi
    have h1 : i < l.length := by omega
    have h2 := hs _ (List.getElem_mem h1)
    rw [show k + (d + 1) + 1 = (k + d + 1) + 1 by omega, impl_levelsOfTree.l0]
    rw [if_pos (by omega), if_pos (by omega), if_pos (by omega), rdOf_get h1, impl_D (by omega), Option.bind_some, if_pos (by simp; omega), wrap_in (by omega) (by omega), show (i : Int) + 1 = ((i + 1 : Nat) : Int) by omega, ← ih (i + 1) (by omega),
      List.take_succ_eq_append_getElem h1, List.map_append, List.map_singleton]
theorem levels_f (k : Nat) (hk : 400 ≤ k) (l : List BA) (hl : l.length ≤ 32) (hs : ∀ y ∈ l, y.size ≤ 1048576) : impl_levelsOfTree.f k l = some (levels (lg l.length) (hashes l)) := by
  obtain ⟨h1, h2, _, _⟩ := np_facts l.length (by omega)
  have hp := pow_small h2
  obtain ⟨m, rfl⟩ : ∃ m, k = ((m + (2 ^ lg l.length - l.length) + 1) + l.length) + 1 := ⟨k - 2 - l.length - (2 ^ lg l.length - l.length), by omega⟩
  unfold impl_levelsOfTree.f
  have h3 := l0_map (m + (2 ^ lg l.length - l.length) + 1) l hl hs l.length 0 (by omega)
  have h3' : impl_levelsOfTree.l0 ((m + (2 ^ lg l.length - l.length) + 1) + l.length + 1) [] l (l.length : Int) 0 = impl_levelsOfTree.l1 (m + (2 ^ lg l.length - l.length) + 1) (l.map D) := h3
  have hm : (l.map D).length = l.length := List.length_map D
  rw [h3', l1_pad m (2 ^ lg l.length - l.length) (l.map D) (by omega) (by rw [hm]; omega)]
  exact l2_levels (lg l.length) [] (hashes l) h2 (hashes_length hl) (by simp; omega) (hashes_size l) m (by omega)
def root (l : List BA) : BA := if l.length ≤ 32 then rdOf ByteArray.empty (tops (lg l.length) (hashes l)) 0 else ByteArray.empty
theorem rd_last (a : List (List BA)) (b : List BA) : rd_L2 (a ++ [b]) ((a.length : Nat) : Int) = b := by
  unfold rd_L2
  simp
theorem impl_root (k : Nat) (hk : 400 ≤ k) (l : List BA) (hs : ∀ y ∈ l, y.size ≤ 1048576) : impl_RootOf.f k l = some (root l) := by
  unfold impl_RootOf.f root
  by_cases c : l.length ≤ 32
  case neg => rw [if_pos (by omega), if_neg c]; rfl
  rw [if_neg (by omega), if_pos c, levels_f k hk l c hs, Option.bind_some, levels_split]
  obtain ⟨h1, h2, _, _⟩ := np_facts l.length (by omega)
  have e1 : (lows (lg l.length) (hashes l) ++ [tops (lg l.length) (hashes l)]).length = lg l.length + 1 := by rw [List.length_append, lows_length]; rfl
  have e2 : wrap64 ((((lows (lg l.length) (hashes l) ++ [tops (lg l.length) (hashes l)]).length : Nat) : Int) - 1) = (((lows (lg l.length) (hashes l)).length : Nat) : Int) := by
    rw [e1, lows_length, wrap_in (by omega) (by omega)]; omega
  rw [e2, rd_last, if_pos (by omega), if_pos (by rw [e1, lows_length]; omega), if_pos (by rw [tops_length _ _ (hashes_length c)]; decide)]
theorem root_size {l : List BA} (h : l.length ≤ 32) : (root l).size = 32 := by
  unfold root
  rw [if_pos h]
  have h1 := tops_length _ _ (hashes_length h)
  have h2 : (0 : Nat) < (tops (lg l.length) (hashes l)).length := by omega
  have e : rdOf ByteArray.empty (tops (lg l.length) (hashes l)) 0 = _ := rdOf_get (i := 0) h2
  rw [e]
  exact tops_size _ _ (hashes_length h) (hashes_size l) _ (List.getElem_mem h2)
-- the reference
theorem spec_up (x0 : List BA) (n : Nat) (hn : x0.length = 2 * n) (hn2 : n ≤ 1000) (hs : ∀ y ∈ x0, y.size = 32) (d : Nat) : ∀ i k, i + d = n → d < k → spec_l10Up.l0 k x0 ((up1 x0).take i) ((2 * i : Nat) : Int) = some (up1 x0) := by
  have hl := up1_length n x0 hn
  induction d with
  | zero =>
    intro i k hi hk
    obtain ⟨k, rfl⟩ : ∃ m, k = m + 1 := ⟨k - 1, by omega⟩
    simp only [spec_l10Up.l0]
    rw [wrap_in (by omega) (by omega), if_neg (by omega), List.take_of_length_le (by omega)]
  | succ d ih =>
    intro i k hi hk
    obtain ⟨k, rfl⟩ : ∃ m, k = m + 1 := ⟨k - 1, by omega⟩
    have h1 : 2 * i < x0.length := by omega
    have h2 : 2 * i + 1 < x0.length := by omega
    simp only [spec_l10Up.l0]
    have e1 : wrap64 (((2 * i : Nat) : Int) + 1) = ((2 * i + 1 : Nat) : Int) := by rw [wrap_in (by omega) (by omega)]; omega
    have e2 : wrap64 (((2 * i : Nat) : Int) + 2) = ((2 * (i + 1) : Nat) : Int) := by rw [wrap_in (by omega) (by omega)]; omega
    rw [e1, if_pos (by omega), if_pos (by omega), if_pos (by omega), if_pos (by omega), rdOf_get h1, rdOf_get h2, spec_pair (by rw [hs _ (List.getElem_mem h1)]; omega) (by rw [hs _ (List.getElem_mem h2)]; omega), Option.bind_some,
      if_pos (by rw [List.length_take]; omega), e2]
    have hg := up1_get n x0 hn i (by omega) (by omega) h1 h2
    rw [← hg, ← List.take_succ_eq_append_getElem (by omega)]
    exact ih (i + 1) k (by omega) (by omega)
theorem spec_up_f (k : Nat) (x0 : List BA) (n : Nat) (hn : x0.length = 2 * n) (hn2 : n ≤ 1000) (hs : ∀ y ∈ x0, y.size = 32) (hk : n < k) : spec_l10Up.f k x0 = some (up1 x0) := by
  have h := spec_up x0 n hn hn2 hs n 0 k (by omega) hk
  unfold spec_l10Up.f
  exact h
theorem lev_dec : ∀ n : Nat, n < 33 → spec_LevelsOf.f 10 (n : Int) = some ((lg n : Nat) : Int) ∧ 0 ≤ IntKind.u64.wrap ((lg n : Nat) : Int) ∧ shl .i64 1 (IntKind.u64.wrap ((lg n : Nat) : Int)) = ((2 ^ lg n : Nat) : Int) := by decide +kernel
theorem spec_lev (k : Nat) (hk : 10 ≤ k) (n : Nat) (hn : n ≤ 32) : spec_LevelsOf.f k (n : Int) = some ((lg n : Nat) : Int) :=
  at_rounds (g := fun k => spec_LevelsOf.f k (n : Int)) (fun k => spec_LevelsOf.mono (n : Int) k) hk (lev_dec n (by omega)).1
theorem spec_l1 (l : List BA) (hl : l.length ≤ 32) (d : Nat) : ∀ (x : List BA) (k : Nat), x.length + d = 2 ^ lg l.length → 40 + d ≤ k → spec_l10Hashes.l1 k l x (D ByteArray.empty) = some (x ++ List.replicate d (D ByteArray.empty)) := by
  obtain ⟨_, b0, b1⟩ := lev_dec l.length (by omega)
  have hp := pow_small (np_facts l.length (by omega)).2.1
  induction d with
  | zero =>
    intro x k hx hk
    obtain ⟨k, rfl⟩ : ∃ m, k = m + 1 := ⟨k - 1, by omega⟩
    simp only [spec_l10Hashes.l1]
    rw [spec_lev k (by omega) _ hl, Option.bind_some, if_pos b0, b1, if_neg (by omega)]
    simp
  | succ d ih =>
    intro x k hx hk
    obtain ⟨k, rfl⟩ : ∃ m, k = m + 1 := ⟨k - 1, by omega⟩
    simp only [spec_l10Hashes.l1]
    rw [spec_lev k (by omega) _ hl, Option.bind_some, if_pos b0, b1, if_pos (by omega), if_pos (by omega), ih (x ++ [D ByteArray.empty]) k (by simp; omega) (by omega), List.replicate_succ, List.append_assoc, List.singleton_append]
theorem spec_l0h (l : List BA) (hl : l.length ≤ 32) (hs : ∀ y ∈ l, y.size ≤ 1048576) (d : Nat) : ∀ i k, i + d = l.length → 100 + d ≤ k → spec_l10Hashes.l0 k l ((l.take i).map D) (i : Int) = some (hashes l) := by
  induction d with
  | zero =>
    intro i k hi hk
    obtain ⟨k, rfl⟩ : ∃ m, k = m + 1 := ⟨k - 1, by omega⟩
    have h1 := np_facts l.length (by omega)
    have hp := pow_small h1.2.1
    have hD : spec_Digest.f (⟨#[]⟩ : ByteArray) = some (D ByteArray.empty) := spec_D (t := ByteArray.empty) (by decide)
    simp only [spec_l10Hashes.l0]
    rw [if_neg (by omega), List.take_of_length_le (by omega), hD, Option.bind_some, spec_l1 l hl (2 ^ lg l.length - l.length) _ k (by rw [List.length_map]; omega) (by omega)]
    rfl
  | succ d ih =>
    intro i k hi hk
    obtain ⟨k, rfl⟩ : ∃ m, k = m + 1 := ⟨k - 1, by omega⟩
    have h1 : i < l.length := by omega
    have h2 := hs _ (List.getElem_mem h1)
    simp only [spec_l10Hashes.l0]
    rw [if_pos (by omega), if_pos (by omega), rdOf_get h1, spec_D (by omega), Option.bind_some, if_pos (by simp; omega), wrap_in (by omega) (by omega), show (i : Int) + 1 = ((i + 1 : Nat) : Int) by omega, ← ih (i + 1) k (by omega) (by omega),
      List.take_succ_eq_append_getElem h1, List.map_append, List.map_singleton]
theorem spec_hashes (k : Nat) (hk : 200 ≤ k) (l : List BA) (hl : l.length ≤ 32) (hs : ∀ y ∈ l, y.size ≤ 1048576) : spec_l10Hashes.f k l = some (hashes l) := by
  have h := spec_l0h l hl hs l.length 0 k (by omega) (by omega)
  unfold spec_l10Hashes.f
  exact h
theorem spec_root_l0 (j : Nat) : ∀ (x : List BA) (k : Nat), j ≤ 5 → x.length = 2 ^ j → (∀ y ∈ x, y.size = 32) → 100 + j ≤ k → spec_RootOf.l0 k x = some (rdOf ByteArray.empty (tops j x) 0) := by
  induction j with
  | zero =>
    intro x k hj hx hs hk
    obtain ⟨k, rfl⟩ : ∃ m, k = m + 1 := ⟨k - 1, by omega⟩
    simp only [spec_RootOf.l0]
    rw [if_neg (by rw [hx]; decide), if_pos (by rw [hx]; decide)]
    rfl
  | succ j ih =>
    intro x k hj hx hs hk
    obtain ⟨k, rfl⟩ : ∃ m, k = m + 1 := ⟨k - 1, by omega⟩
    have hpj := pow_small (show j ≤ 5 by omega)
    have hx2 : x.length = 2 * 2 ^ j := by rw [hx, Nat.pow_succ]; omega
    simp only [spec_RootOf.l0]
    rw [if_pos (by omega), spec_up_f k x (2 ^ j) hx2 (by omega) hs (by omega), Option.bind_some, ih (up1 x) k (by omega) (up1_length _ _ hx2) (up1_size _ _ hx2) (by omega)]
    rfl
theorem spec_root (k : Nat) (hk : 400 ≤ k) (l : List BA) (hs : ∀ y ∈ l, y.size ≤ 1048576) : spec_RootOf.f k l = some (root l) := by
  unfold spec_RootOf.f root
  by_cases c : l.length ≤ 32
  case neg => rw [if_pos (by omega), if_neg c]; rfl
  rw [if_neg (by omega), if_pos c, spec_hashes k (by omega) l c hs, Option.bind_some]
  exact spec_root_l0 _ _ k (np_facts l.length (by omega)).2.1 (hashes_length c) (hashes_size l) (by have := (np_facts l.length (by omega)).2.1; omega)
end Go.Proofs.YtmiiknkfhiecgaaDoor.Tree
end
section
/- What is proved here: what HeadOk, HeadRoot and SigText answer, by the program and by the reference. No conditions but that the texts are no longer than 2^20 bytes. -/
set_option linter.unusedVariables false
set_option linter.unusedSimpArgs false
namespace Go.Proofs.YtmiiknkfhiecgaaDoor.Tree
open Go.RowKit Go.Proofs.YtmiiknkfhiecgaaDoor.Pf Go.Proofs.YtmiiknkfhiecgaaDoorW.PrintWords Go.Proofs.YtmiiknkfhiecgaaDoor.Strs
abbrev HOk (s : Int) (a b c : BA) : Prop := (0 ≤ s ∧ s ≤ 10000) ∧ (a.size : Int) = 32 ∧ (b.size : Int) = 32 ∧ (c.size : Int) = 32
theorem spec_ok (s : Int) (a b c : BA) : spec_HeadOk.f s a b c = some (decide (HOk s a b c)) := by
  by_cases h : HOk s a b c
  · rw [decide_eq_true h]
    obtain ⟨⟨h0, h1⟩, h2, h3, h4⟩ := h
    simp [spec_HeadOk.f, spec_l01In.f, h0, h1, h2, h3, h4]
  · rw [decide_eq_false h]
    unfold spec_HeadOk.f spec_l01In.f
    by_cases h0 : s ≥ 0 <;> by_cases h1 : s ≤ 10000 <;> by_cases h2 : (a.size : Int) = 32 <;> by_cases h3 : (b.size : Int) = 32 <;> by_cases h4 : (c.size : Int) = 32 <;> simp [h0, h1, h2, h3, h4] <;> exact h ⟨⟨h0, h1⟩, h2, h3, h4⟩
theorem impl_ok (s : Int) (a b c : BA) : impl_HeadOk.f s a b c = some (decide (HOk s a b c)) := by
  by_cases h : HOk s a b c
  · rw [decide_eq_true h]
    obtain ⟨⟨h0, h1⟩, h2, h3, h4⟩ := h
    simp [impl_HeadOk.f, impl_isSlot.f, impl_isDigest.f, h0, h1, h2, h3, h4]
  · rw [decide_eq_false h]
    unfold impl_HeadOk.f impl_isSlot.f impl_isDigest.f
    by_cases h0 : s ≥ 0 <;> by_cases h1 : s ≤ 10000 <;> by_cases h2 : (a.size : Int) = 32 <;> by_cases h3 : (b.size : Int) = 32 <;> by_cases h4 : (c.size : Int) = 32 <;> simp [h0, h1, h2, h3, h4] <;> exact h ⟨⟨h0, h1⟩, h2, h3, h4⟩
theorem var_loop (k : Nat) : ∀ n xs, impl_varText.l0 k n xs = spec_l01Var.l0 k n xs := by
  induction k with
  | zero => intros; rfl
  | succ k ih => intro n xs; simp only [spec_l01Var.l0, impl_varText.l0, ih, Int.add_comm 128]
theorem var_some (n : Int) (h0 : 0 ≤ n) (h1 : n ≤ 10000) : ∃ v, v.size ≤ 2 ∧ spec_l01Var.f 2 n = some v := by
  unfold spec_l01Var.f
  by_cases h : n > 127
  · refine ⟨strOfNums ([] ++ [wrap64 (Int.tmod n 128 + 128) % 256] ++ [wrap64 (Int.tdiv n 128) % 256]), ?_, ?_⟩
    · simp [strOfNums, ByteArray.size]
    · have h2 : Int.tdiv n 128 = n / 128 := Int.tdiv_eq_ediv_of_nonneg h0
      have h3 : ¬ (wrap64 (Int.tdiv n 128) > 127) := by rw [h2]; unfold wrap64; omega
      simp only [spec_l01Var.l0]
      rw [if_pos h, if_pos (by simp), if_neg h3, if_pos (by simp)]
  · refine ⟨strOfNums ([] ++ [n % 256]), ?_, ?_⟩
    · simp [strOfNums, ByteArray.size]
    · simp only [spec_l01Var.l0]
      rw [if_neg h, if_pos (by simp)]
def vt (n : Int) : BA := (spec_l01Var.f 2 n).getD ByteArray.empty
theorem vt_spec {n : Int} (h0 : 0 ≤ n) (h1 : n ≤ 10000) {k : Nat} (hk : 2 ≤ k) : spec_l01Var.f k n = some (vt n) := by
  obtain ⟨v, _, hv⟩ := var_some n h0 h1
  exact at_rounds (g := fun k => spec_l01Var.f k n) (fun k => spec_l01Var.mono n k) hk (by unfold vt; rw [hv]; rfl)
theorem vt_impl {n : Int} (h0 : 0 ≤ n) (h1 : n ≤ 10000) {k : Nat} (hk : 2 ≤ k) : impl_varText.f k n = some (vt n) := by
  rw [← vt_spec h0 h1 hk]
  unfold impl_varText.f spec_l01Var.f
  exact var_loop k n []
theorem vt_size {n : Int} (h0 : 0 ≤ n) (h1 : n ≤ 10000) : (vt n).size ≤ 2 := by
  obtain ⟨v, h, hv⟩ := var_some n h0 h1
  unfold vt
  rw [hv]
  exact h
def parts (s : Int) (a b c : BA) : List BA := [vt s, a, b, c]
theorem parts_small {s : Int} {a b c : BA} (h : HOk s a b c) : ∀ y ∈ parts s a b c, y.size ≤ 1048576 := by
  obtain ⟨⟨h0, h1⟩, h2, h3, h4⟩ := h
  have hv := vt_size h0 h1
  intro y hy
  simp only [parts, List.mem_cons, List.not_mem_nil, or_false] at hy
  rcases hy with rfl | rfl | rfl | rfl <;> omega
def headRoot (s : Int) (a b c : BA) : BA := if HOk s a b c then root (parts s a b c) else ByteArray.empty
theorem spec_headRoot (k : Nat) (hk : 400 ≤ k) (s : Int) (a b c : BA) : spec_HeadRoot.f k s a b c = some (headRoot s a b c) := by
  unfold spec_HeadRoot.f headRoot
  rw [spec_ok, Option.bind_some]
  by_cases h : HOk s a b c
  · rw [if_pos h, decide_eq_true h, if_pos rfl, vt_spec h.1.1 h.1.2 (by omega), Option.bind_some, show [vt s, a, b, c] = parts s a b c from rfl, spec_root k hk _ (parts_small h), Option.bind_some]
  · rw [if_neg h, decide_eq_false h, if_neg (by decide)]
    rfl
theorem impl_headRoot (k : Nat) (hk : 400 ≤ k) (s : Int) (a b c : BA) : impl_HeadRoot.f k s a b c = some (headRoot s a b c) := by
  unfold impl_HeadRoot.f headRoot
  rw [impl_ok, Option.bind_some]
  by_cases h : HOk s a b c
  · rw [if_pos h, decide_eq_true h, if_pos rfl, vt_impl h.1.1 h.1.2 (by omega), Option.bind_some, show [vt s, a, b, c] = parts s a b c from rfl, impl_root k hk _ (parts_small h), Option.bind_some]
  · rw [if_neg h, decide_eq_false h, if_neg (by decide)]
    rfl
theorem headRoot_size {s : Int} {a b c : BA} (h : HOk s a b c) : (headRoot s a b c).size = 32 := by
  unfold headRoot
  rw [if_pos h]
  exact root_size (by simp [parts])
def sigText (s : Int) (a b c : BA) (d : Int) : BA := if HOk s a b c ∧ 0 ≤ d ∧ d ≤ 255 then strOfNums [d % 256] ++ headRoot s a b c else ByteArray.empty
theorem one_size (d : Int) : (strOfNums [d]).size = 1 := by simp [strOfNums, ByteArray.size]
theorem sig_step {s : Int} {a b c : BA} (h : HOk s a b c) (d : Int) : (strOfNums [d]).size + (headRoot s a b c).size ≤ 9223372036854775807 := by
  rw [one_size, headRoot_size h]
  decide
theorem spec_sigText (k : Nat) (hk : 400 ≤ k) (s : Int) (a b c : BA) (d : Int) : spec_SigText.f k s a b c d = some (sigText s a b c d) := by
  unfold spec_SigText.f sigText
  rw [spec_ok, Option.bind_some]
  by_cases h : HOk s a b c
  case neg =>
    rw [decide_eq_false h, if_neg (by decide), if_neg (fun e => h e.1)]
    rfl
  rw [decide_eq_true h, if_pos rfl, l01In_f, Option.bind_some]
  by_cases h2 : 0 ≤ d ∧ d ≤ 255
  · rw [decide_eq_true h2, if_pos rfl, Option.bind_some, spec_headRoot k hk, Option.bind_some, if_pos (sig_step h _), if_pos ⟨h, h2⟩]
  · rw [decide_eq_false h2, if_neg (by decide), if_neg (fun e => h2 e.2)]
    rfl
theorem impl_sigText (k : Nat) (hk : 400 ≤ k) (s : Int) (a b c : BA) (d : Int) : impl_SigText.f k s a b c d = some (sigText s a b c d) := by
  unfold impl_SigText.f sigText
  rw [impl_ok, Option.bind_some]
  by_cases h : HOk s a b c
  case neg =>
    rw [decide_eq_false h, if_neg (by decide), if_neg (fun e => h e.1)]
    rfl
  rw [decide_eq_true h, if_pos rfl]
  by_cases h2 : d < 0
  · rw [if_pos h2, if_neg (by omega)]
    rfl
  rw [if_neg h2]
  by_cases h3 : d > 255
  · rw [if_pos h3, if_neg (by omega)]
    rfl
  rw [if_neg h3, Option.bind_some, impl_headRoot k hk, Option.bind_some, if_pos (sig_step h _), if_pos ⟨h, by omega, by omega⟩]
theorem sigText_size {s : Int} {a b c : BA} (h : HOk s a b c) {d : Int} (h0 : 0 ≤ d) (h1 : d ≤ 255) : (sigText s a b c d).size = 33 := by
  unfold sigText
  rw [if_pos ⟨h, h0, h1⟩, ByteArray.size_append, one_size, headRoot_size h]
end Go.Proofs.YtmiiknkfhiecgaaDoor.Tree
end
