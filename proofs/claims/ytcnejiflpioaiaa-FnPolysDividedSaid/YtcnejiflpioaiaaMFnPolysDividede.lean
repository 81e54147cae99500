/- What is proved here: part 5 of 5 of the proof of the given statement FnPolysDivided: the contracts of the Go functions that it reaches, the plain facts on lists and numbers, and (in the last part) the statement itself. No conditions beyond the given ones. -/
import Derived.Test.YtcnejiflpioaiaaMFnPolysDivideda
import Derived.Test.YtcnejiflpioaiaaMFnPolysDividedb
import Derived.Test.YtcnejiflpioaiaaMFnPolysDividedc
import Derived.Test.YtcnejiflpioaiaaMFnPolysDividedd
import Derived.Test.YtcnejiflpioaiaaRows
import Derived.WalkKit
import Derived.ProofKit
import Derived.OpenShut
import Derived.ShutString
import Derived.ChangeOld
import Derived.Below
import Derived.SizedLaws
import Derived.Test.YtcnejiflpioaiaaMFnPolysDividedwSized

section
namespace Go.Proofs.Ytcnejiflpioaiaa.Pf
open Go.RowKit Go.Proofs.YtcnejiflpioaiaaW.PrintWords Go.Proofs.YtcnejiflpioaiaaW.PrintLast Go.Proofs.YtcnejiflpioaiaaW.PrintMore
attribute [local go_sem] max2_int min2_int max_two min_two max_three min_three max_four min_four   -- for this text's walks alone
set_option linter.unusedVariables false
set_option linter.unusedSimpArgs false

/-! ### spec_DrawPolyThrough: function 45 -/
def spec_DrawPolyThrough.f (k : Nat) (l0 : List Int) : Option (List Int) := (spec_l01New.f k l0).bind fun bt863 => ((spec_l01Once.f bt863.1 bt863.2.1 bt863.2.2 12).bind fun bt867 => (if bt867.1 = true then ((spec_l01Below.f bt863.1 bt867.2.1 bt867.2.2 2).bind fun bt870 => (if 0 ≤ (wrap64 (16 + bt870.1)) then (if (wrap64 (16 + bt870.1) : Int).toNat ≤ 35184372088832 then (some (List.replicate (wrap64 (16 + bt870.1) : Int).toNat 0)) else (none)) else (none))) else ((spec_l14Poly.f k bt863.1 bt867.2.1 bt867.2.2).bind fun bt876 => (some bt876.1))))
theorem spec_DrawPolyThrough.mono : ∀ a0 k, LeO (spec_DrawPolyThrough.f k a0) (spec_DrawPolyThrough.f (k + 1) a0) := by
  intro a0 k
  unfold spec_DrawPolyThrough.f
  repeat' first
      | (with_reducible exact spec_l01New.mono _ _)
      | (with_reducible exact spec_l14Poly.mono _ _ _ _)
      | (with_reducible exact LeO.refl _)
      | (with_reducible exact LeO.none _)
      | (with_reducible refine LeO.ite ?_ ?_)
      | (with_reducible refine LeO.bind ?_ (fun _ => ?_))
      | exact spec_l01New.mono _ _
      | exact spec_l14Poly.mono _ _ _ _
      | exact LeO.none _
      | refine LeO.ite ?_ ?_
      | refine LeO.bind ?_ (fun _ => ?_)
set_option maxHeartbeats 8000000 in
set_option maxRecDepth 100000 in
theorem spec_DrawPolyThrough.calls (k : Nat) (A0 : Option Addr) (c0 : Nat) (l0 : List Int) (r : List Int) (w : World) (hr0 : Kd.C (Kd.int .u8) w A0 l0.length l0) (hc0 : l0.length ≤ c0) (h : spec_DrawPolyThrough.f k l0 = some r) :
    Calls Try.prog 45 #[.slice A0 l0.length c0] w fun e w' => ∃ v0_ : Value, e = .returned (v0_) ∧ Kd.R (Kd.int .i64) 3 w' w.heap.size (fun _ => True) v0_ r ∧ Below w.heap.size w w' := by
  have HR0 := Aside0.mk hr0
  have HC0 := Aside0.mk hc0
  clear hr0 hc0
  have HB := Aside0.mk (Below.refl w.heap.size w)
  have H : ((spec_l01New.f k l0).bind fun bt863 => ((spec_l01Once.f bt863.1 bt863.2.1 bt863.2.2 12).bind fun bt867 => (if bt867.1 = true then ((spec_l01Below.f bt863.1 bt867.2.1 bt867.2.2 2).bind fun bt870 => (if 0 ≤ (wrap64 (16 + bt870.1)) then (if (wrap64 (16 + bt870.1) : Int).toNat ≤ 35184372088832 then (some (List.replicate (wrap64 (16 + bt870.1) : Int).toNat 0)) else (none)) else (none))) else ((spec_l14Poly.f k bt863.1 bt867.2.1 bt867.2.2).bind fun bt876 => (some bt876.1))))) = some r := h
  clear h
  replace H := Option.bind_eq_some_iff.mp H
  obtain ⟨⟨t863, t864, t865⟩, A20, H⟩ := H
  replace H : ((spec_l01Once.f t863 t864 t865 12).bind fun bt867 => (if bt867.1 = true then ((spec_l01Below.f t863 bt867.2.1 bt867.2.2 2).bind fun bt870 => (if 0 ≤ (wrap64 (16 + bt870.1)) then (if (wrap64 (16 + bt870.1) : Int).toNat ≤ 35184372088832 then (some (List.replicate (wrap64 (16 + bt870.1) : Int).toNat 0)) else (none)) else (none))) else ((spec_l14Poly.f k t863 bt867.2.1 bt867.2.2).bind fun bt876 => (some bt876.1)))) = some r := H
  have A2 := Aside0.mk A20
  clear A20
  replace H := Option.bind_eq_some_iff.mp H
  obtain ⟨⟨t867, t868, t869⟩, A30, H⟩ := H
  replace H : (if t867 = true then ((spec_l01Below.f t863 t868 t869 2).bind fun bt870 => (if 0 ≤ (wrap64 (16 + bt870.1)) then (if (wrap64 (16 + bt870.1) : Int).toNat ≤ 35184372088832 then (some (List.replicate (wrap64 (16 + bt870.1) : Int).toNat 0)) else (none)) else (none))) else ((spec_l14Poly.f k t863 t868 t869).bind fun bt876 => (some bt876.1))) = some r := H
  have A3 := Aside0.mk A30
  clear A30
  by_cases c4 : t867 = true
  · subst c4
    have H1 : ((spec_l01Below.f t863 t868 t869 2).bind fun bt870 => (if 0 ≤ (wrap64 (16 + bt870.1)) then (if (wrap64 (16 + bt870.1) : Int).toNat ≤ 35184372088832 then (some (List.replicate (wrap64 (16 + bt870.1) : Int).toNat 0)) else (none)) else (none))) = some r := by rw [if_pos rfl] at H; exact H
    clear H
    have H := H1
    clear H1
    replace H := Option.bind_eq_some_iff.mp H
    obtain ⟨⟨t870, t871, t872⟩, A50, H⟩ := H
    replace H : (if 0 ≤ (wrap64 (16 + t870)) then (if (wrap64 (16 + t870) : Int).toNat ≤ 35184372088832 then (some (List.replicate (wrap64 (16 + t870) : Int).toNat 0)) else (none)) else (none)) = some r := H
    have A5 := Aside0.mk A50
    clear A50
    obtain ⟨ji6, hji6⟩ : ∃ j_ : Int, (wrap64 (16 + t870)) = j_ := ⟨_, rfl⟩
    replace H : (if 0 ≤ (ji6) then (if (ji6 : Int).toNat ≤ 35184372088832 then (some (List.replicate (ji6 : Int).toNat 0)) else (none)) else (none)) = some r := by first | (rw [hji6] at H; exact H) | (simp only [hji6] at H ⊢; exact H)
    (try rw [hji6] at A2)
    (try rw [hji6] at A3)
    (try rw [hji6] at A5)
    have hji6w : (IntKind.i64.wrap (16 + t870)) = ji6 := (i64_w _).trans hji6
    by_cases c7 : 0 ≤ (ji6)
    · rw [if_pos c7] at H
      have c7b0 := eq_true c7
      have c7b1 : decide (0 ≤ (ji6)) = true := decide_eq_true c7
      clear c7
      by_cases c8 : (ji6 : Int).toNat ≤ 35184372088832
      · rw [if_pos c8] at H
        have c8b0 := eq_true c8
        have c8b1 : decide ((ji6 : Int).toNat ≤ 35184372088832) = true := decide_eq_true c8
        clear c8
        obtain ⟨y873, hy873⟩ : ∃ y_ : List Int, y_ = (List.replicate (ji6 : Int).toNat 0) := ⟨_, rfl⟩
        replace H : (some y873) = some r := by first | (rw [hy873]; with_reducible exact H) | (have H2_ := (Option.bind_some _ _).symm.trans H; rw [hy873]; with_reducible exact H2_) | (have H2_ := (Option.bind_some _ _).symm.trans H; with_reducible exact H2_) | with_reducible exact H | (rw [hy873]; exact H) | exact H
        have Ny873 := Aside0.mk hy873
        clear hy873
        obtain rfl := Option.some.inj H
        go_enter Try.func45, Try.ntmps45
        go_wp2_with (first | ((with_reducible refine gate_callee (f := 65) rfl ?_); refine goesL_ (some 5) rfl rfl Try.func65 (by kernel_rfl) rfl #[.slice A0 l0.length c0] rfl (by (try simp only [List.map_toArray, List.map_cons, List.map_nil]); first | done | rfl | (simp only [List.length_drop, List.length_take]; rfl)) ?_; (with_reducible refine (spec_l01New.calls k _ _ l0 t863 t864 t865 w _ ?side1 ?side2 ?side3 A2.out).mono ?_); (case side1 => repeat (first | (with_reducible first | exact HB.out | apply below_alloc | apply pw_below_drewN | apply below_drew1) | exact HB.out)); (case side2 => exact HR0.out); (case side3 => exact HC0.out); rintro e w9 ⟨g866, rfl, hi, hb, hb2⟩; refine ⟨_, rfl, ?_⟩; have n0_ := Aside0.mk (hb); have n1_ := Aside0.mk (hi); clear HB; have HB := n0_; have HI866 := n1_; clear n0_ n1_; (try clear hb); (try clear hb2); (try clear hk); (try clear hi)) | ((with_reducible refine gate_callee (f := 77) rfl ?_); refine goesL_ (some 7) rfl rfl Try.func77 (by kernel_rfl) rfl #[.pointer (some ⟨g866, 0, none⟩), .int .i64 12] rfl (by (try simp only [List.map_toArray, List.map_cons, List.map_nil]); first | done | rfl | (simp only [List.length_drop, List.length_take]; rfl)) ?_; (with_reducible refine (spec_l01Once.calls g866 t863 t864 t865 12 true t868 t869 w _ ?side1 ?side2 A3.out).mono ?_); (case side1 => repeat (first | (with_reducible first | exact HI866.out | apply IsS88.alloc | apply IsS88.drewN | apply IsS88.drew | apply IsS88.set_1 | apply IsS88.set_2) | exact HI866.out)); (case side2 => repeat (first | (with_reducible first | exact HB.out | apply below_alloc | apply pw_below_drewN | apply below_drew1 | refine below_set ?_ (IsS88.ge HI866.out)) | exact HB.out)); rintro e w10 ⟨rfl, hi, hb, hk⟩; refine ⟨_, rfl, ?_⟩; have n0_ := Aside0.mk (hb); have n1_ := Aside0.mk (hi); clear HB; clear HI866; have HB := n0_; have HI866 := n1_; clear n0_ n1_; (try clear hb); (try clear hb2); (try clear hk); (try clear hi)) | ((with_reducible refine gate_callee (f := 67) rfl ?_); refine goesL_ (some 9) rfl rfl Try.func67 (by kernel_rfl) rfl #[.pointer (some ⟨g866, 0, none⟩), .int .i64 2] rfl (by (try simp only [List.map_toArray, List.map_cons, List.map_nil]); first | done | rfl | (simp only [List.length_drop, List.length_take]; rfl)) ?_; (with_reducible refine (spec_l01Below.calls g866 t863 t868 t869 2 t870 t871 t872 w _ ?side1 ?side2 A5.out).mono ?_); (case side1 => repeat (first | (with_reducible first | exact HI866.out | apply IsS88.alloc | apply IsS88.drewN | apply IsS88.drew | apply IsS88.set_1 | apply IsS88.set_2) | exact HI866.out)); (case side2 => repeat (first | (with_reducible first | exact HB.out | apply below_alloc | apply pw_below_drewN | apply below_drew1 | refine below_set ?_ (IsS88.ge HI866.out)) | exact HB.out)); rintro e w11 ⟨rfl, hi, hb, hk⟩; refine ⟨_, rfl, ?_⟩; have n0_ := Aside0.mk (hb); have n1_ := Aside0.mk (hi); clear HB; clear HI866; have HB := n0_; have HI866 := n1_; clear n0_ n1_; (try clear hb); (try clear hb2); (try clear hk); (try clear hi)) | ((with_reducible refine gate_dst (N := 11) rfl ?_); refine Kd.R_make (Kd.int .i64) _ 3 rfl (N := 11) rfl 22 _ _ rfl ji6 rfl rfl Try.underlying22 (.int .i64 0) 8 info3 rfl (by decide) (by omega) 0 (ok := fun _ => True) (okp := fun _ => True) rfl (fun _ hk => hk) trivial (of_decide_eq_true (by first | (with_reducible assumption) | assumption)) (Nat.le_trans (Nat.mul_le_mul_right _ (of_decide_eq_true (by first | (with_reducible assumption) | assumption) : ji6.toNat ≤ 35184372088832)) (by omega)) (Below.refl _ _) (Nat.le_refl _) ?_; intro v874 w12 ho13 hb hg_ hnew_; clear hg_ hnew_; (first | rw [← Ny873.out] at ho13 | (simp only [Int.reduceToNat] at ho13; rw [← Ny873.out] at ho13)); have n0_ := Aside0.mk (Kd.R_lower ho13 (below_size (by repeat (first | (with_reducible first | exact HB.out | apply below_alloc | apply pw_below_drewN | apply below_drew1 | refine below_set ?_ (IsS88.ge HI866.out)) | exact HB.out)))); have n1_ := Aside0.mk (IsS88.below (by repeat (first | (with_reducible first | exact HI866.out | apply IsS88.alloc | apply IsS88.drewN | apply IsS88.drew | apply IsS88.set_1 | apply IsS88.set_2) | exact HI866.out)) hb); have n2_ := Aside0.mk (below_step (by repeat (first | (with_reducible first | exact HB.out | apply below_alloc | apply pw_below_drewN | apply below_drew1 | refine below_set ?_ (IsS88.ge HI866.out)) | exact HB.out)) hb); clear HI866; clear HB; have HO875 := n0_; have HI866 := n1_; have HB := n2_; clear n0_ n1_ n2_; clear hb ho13))
        go_ret
        exact ⟨_, by first | rfl | (simp [errW_none, errW_some] <;> rfl) | (simp only [← hji6]; first | rfl | (simp [errW_none, errW_some] <;> rfl)) | (simp [*, errW_none, errW_some] <;> rfl), by (with_reducible repeat (first | apply Kd.R_alloc | apply Kd.R_drewN | apply Kd.R_drew)); exact HO875.out, by repeat (first | (with_reducible first | exact HB.out | apply below_alloc | apply pw_below_drewN | apply below_drew1 | refine below_set ?_ (IsS88.ge HI866.out)) | exact HB.out)⟩
      · rw [if_neg c8] at H
        exact absurd H (by simp)
    · rw [if_neg c7] at H
      exact absurd H (by simp)
  · replace c4 := Bool.eq_false_iff.mpr c4
    subst c4
    have H1 : ((spec_l14Poly.f k t863 t868 t869).bind fun bt876 => (some bt876.1)) = some r := by rw [if_neg (show ¬ (false = true) by decide)] at H; exact H
    clear H
    have H := H1
    clear H1
    replace H := Option.bind_eq_some_iff.mp H
    obtain ⟨⟨t876, t879, t880⟩, A140, H⟩ := H
    replace H : (some t876) = some r := H
    have A14 := Aside0.mk A140
    clear A140
    obtain rfl := Option.some.inj H
    go_enter Try.func45, Try.ntmps45
    go_wp2_with (first | ((with_reducible refine gate_callee (f := 65) rfl ?_); refine goesL_ (some 5) rfl rfl Try.func65 (by kernel_rfl) rfl #[.slice A0 l0.length c0] rfl (by (try simp only [List.map_toArray, List.map_cons, List.map_nil]); first | done | rfl | (simp only [List.length_drop, List.length_take]; rfl)) ?_; (with_reducible refine (spec_l01New.calls k _ _ l0 t863 t864 t865 w _ ?side1 ?side2 ?side3 A2.out).mono ?_); (case side1 => repeat (first | (with_reducible first | exact HB.out | apply below_alloc | apply pw_below_drewN | apply below_drew1) | exact HB.out)); (case side2 => exact HR0.out); (case side3 => exact HC0.out); rintro e w15 ⟨g866, rfl, hi, hb, hb2⟩; refine ⟨_, rfl, ?_⟩; have n0_ := Aside0.mk (hb); have n1_ := Aside0.mk (hi); clear HB; have HB := n0_; have HI866 := n1_; clear n0_ n1_; (try clear hb); (try clear hb2); (try clear hk); (try clear hi)) | ((with_reducible refine gate_callee (f := 77) rfl ?_); refine goesL_ (some 7) rfl rfl Try.func77 (by kernel_rfl) rfl #[.pointer (some ⟨g866, 0, none⟩), .int .i64 12] rfl (by (try simp only [List.map_toArray, List.map_cons, List.map_nil]); first | done | rfl | (simp only [List.length_drop, List.length_take]; rfl)) ?_; (with_reducible refine (spec_l01Once.calls g866 t863 t864 t865 12 false t868 t869 w _ ?side1 ?side2 A3.out).mono ?_); (case side1 => repeat (first | (with_reducible first | exact HI866.out | apply IsS88.alloc | apply IsS88.drewN | apply IsS88.drew | apply IsS88.set_1 | apply IsS88.set_2) | exact HI866.out)); (case side2 => repeat (first | (with_reducible first | exact HB.out | apply below_alloc | apply pw_below_drewN | apply below_drew1 | refine below_set ?_ (IsS88.ge HI866.out)) | exact HB.out)); rintro e w16 ⟨rfl, hi, hb, hk⟩; refine ⟨_, rfl, ?_⟩; have n0_ := Aside0.mk (hb); have n1_ := Aside0.mk (hi); clear HB; clear HI866; have HB := n0_; have HI866 := n1_; clear n0_ n1_; (try clear hb); (try clear hb2); (try clear hk); (try clear hi)) | ((with_reducible refine gate_callee (f := 78) rfl ?_); refine goesL_ (some 13) rfl rfl Try.func78 (by kernel_rfl) rfl #[.pointer (some ⟨g866, 0, none⟩)] rfl (by (try simp only [List.map_toArray, List.map_cons, List.map_nil]); first | done | rfl | (simp only [List.length_drop, List.length_take]; rfl)) ?_; (with_reducible refine (spec_l14Poly.calls k g866 t863 t868 t869 t876 t879 t880 w _ ?side1 ?side2 A14.out).mono ?_); (case side1 => repeat (first | (with_reducible first | exact HI866.out | apply IsS88.alloc | apply IsS88.drewN | apply IsS88.drew | apply IsS88.set_1 | apply IsS88.set_2) | exact HI866.out)); (case side2 => repeat (first | (with_reducible first | exact HB.out | apply below_alloc | apply pw_below_drewN | apply below_drew1 | refine below_set ?_ (IsS88.ge HI866.out)) | exact HB.out)); rintro e w17 ⟨v877, rfl, ho0, hi, hb, hk⟩; refine ⟨_, rfl, ?_⟩; have n0_ := Aside0.mk (Kd.R_lower ho0 (below_size (by repeat (first | (with_reducible first | exact HB.out | apply below_alloc | apply pw_below_drewN | apply below_drew1 | refine below_set ?_ (IsS88.ge HI866.out)) | exact HB.out)))); have n1_ := Aside0.mk (hb); have n2_ := Aside0.mk (hi); clear HB; clear HI866; have HO878 := n0_; have HB := n1_; have HI866 := n2_; clear n0_ n1_ n2_; (try clear hb); (try clear hb2); (try clear hk); (try clear hi); (try clear ho0)))
    go_ret
    exact ⟨_, by first | rfl | (simp [errW_none, errW_some] <;> rfl) | (simp [*, errW_none, errW_some] <;> rfl), by (with_reducible repeat (first | apply Kd.R_alloc | apply Kd.R_drewN | apply Kd.R_drew)); exact HO878.out, by repeat (first | (with_reducible first | exact HB.out | apply below_alloc | apply pw_below_drewN | apply below_drew1 | refine below_set ?_ (IsS88.ge HI866.out)) | exact HB.out)⟩

end Go.Proofs.Ytcnejiflpioaiaa.Pf
end

section
namespace Go.Proofs.Ytcnejiflpioaiaa.Pf
open Go.RowKit Go.Proofs.YtcnejiflpioaiaaW.PrintWords Go.Proofs.YtcnejiflpioaiaaW.PrintLast Go.Proofs.YtcnejiflpioaiaaW.PrintMore
attribute [local go_sem] max2_int min2_int max_two min_two max_three min_three max_four min_four   -- for this text's walks alone
set_option linter.unusedVariables false
set_option linter.unusedSimpArgs false

/-! ### spec_DrawPlaces: function 25 -/
def spec_DrawPlaces.l0 : Nat → List Int → Int → List Int → Int → Int → Option (List Int)
  | 0, _, _, _, _, _ => none
  | k + 1, x4, x5, x386000, x386001, x386002 => if x5 < 12 then ((spec_l01Below.f x386000 x386001 x386002 10000).bind fun bt392 => (if x4.length < 17592186044416 then (spec_DrawPlaces.l0 k (x4 ++ [bt392.1]) (wrap64 (x5 + 1)) x386000 bt392.2.1 bt392.2.2) else (none))) else (some x4)
def spec_DrawPlaces.f (k : Nat) (l0 : List Int) : Option (List Int) := (spec_l01New.f k l0).bind fun bt382 => ((spec_l01Byte.f bt382.1 bt382.2.1 bt382.2.2).bind fun bt386 => (spec_DrawPlaces.l0 k (([] : List Int)) 0 bt382.1 bt386.2.1 bt386.2.2))
theorem spec_DrawPlaces.mono_l : ∀ k, (∀ y0 y1 y2 y3 y4, LeO (spec_DrawPlaces.l0 k y0 y1 y2 y3 y4) (spec_DrawPlaces.l0 (k + 1) y0 y1 y2 y3 y4))
  | 0 => fun _ _ _ _ _ r h => by simp [spec_DrawPlaces.l0] at h
  | k + 1 => by
    have ih0 := spec_DrawPlaces.mono_l k
    · intro y0 y1 y2 y3 y4
      unfold spec_DrawPlaces.l0
      repeat' first
      | (with_reducible exact ih0 _ _ _ _ _)
      | (with_reducible exact spec_l01New.mono _ _)
      | (with_reducible exact LeO.refl _)
      | (with_reducible exact LeO.none _)
      | (with_reducible refine LeO.ite ?_ ?_)
      | (with_reducible refine LeO.bind ?_ (fun _ => ?_))
      | exact ih0 _ _ _ _ _
      | exact spec_l01New.mono _ _
      | exact LeO.none _
      | refine LeO.ite ?_ ?_
      | refine LeO.bind ?_ (fun _ => ?_)
theorem spec_DrawPlaces.mono : ∀ a0 k, LeO (spec_DrawPlaces.f k a0) (spec_DrawPlaces.f (k + 1) a0) := by
  intro a0 k
  have ih0 := spec_DrawPlaces.mono_l k
  unfold spec_DrawPlaces.f
  repeat' first
      | (with_reducible exact ih0 _ _ _ _ _)
      | (with_reducible exact spec_l01New.mono _ _)
      | (with_reducible exact LeO.refl _)
      | (with_reducible exact LeO.none _)
      | (with_reducible refine LeO.ite ?_ ?_)
      | (with_reducible refine LeO.bind ?_ (fun _ => ?_))
      | exact ih0 _ _ _ _ _
      | exact spec_l01New.mono _ _
      | exact LeO.none _
      | refine LeO.ite ?_ ?_
      | refine LeO.bind ?_ (fun _ => ?_)
set_option maxHeartbeats 8000000 in
set_option maxRecDepth 100000 in
theorem spec_DrawPlaces.calls (k : Nat) (A0 : Option Addr) (c0 : Nat) (l0 : List Int) (r : List Int) (w : World) (hr0 : Kd.C (Kd.int .u8) w A0 l0.length l0) (hc0 : l0.length ≤ c0) (h : spec_DrawPlaces.f k l0 = some r) :
    Calls Try.prog 25 #[.slice A0 l0.length c0] w fun e w' => ∃ v0_ : Value, e = .returned (v0_) ∧ Kd.R (Kd.int .i64) 3 w' w.heap.size (fun _ => True) v0_ r ∧ Below w.heap.size w w' := by
  have HR0 := Aside0.mk hr0
  have HC0 := Aside0.mk hc0
  clear hr0 hc0
  have HB := Aside0.mk (Below.refl w.heap.size w)
  have H : ((spec_l01New.f k l0).bind fun bt382 => ((spec_l01Byte.f bt382.1 bt382.2.1 bt382.2.2).bind fun bt386 => (spec_DrawPlaces.l0 k (([] : List Int)) 0 bt382.1 bt386.2.1 bt386.2.2))) = some r := h
  clear h
  replace H := Option.bind_eq_some_iff.mp H
  obtain ⟨⟨t382, t383, t384⟩, A20, H⟩ := H
  replace H : ((spec_l01Byte.f t382 t383 t384).bind fun bt386 => (spec_DrawPlaces.l0 k (([] : List Int)) 0 t382 bt386.2.1 bt386.2.2)) = some r := H
  have A2 := Aside0.mk A20
  clear A20
  replace H := Option.bind_eq_some_iff.mp H
  obtain ⟨⟨t386, t387, t388⟩, A30, H⟩ := H
  replace H : (spec_DrawPlaces.l0 k (([] : List Int)) 0 t382 t387 t388) = some r := H
  have A3 := Aside0.mk A30
  clear A30
  obtain ⟨y389, hy389⟩ : ∃ y_ : List Int, y_ = (([] : List Int)) := ⟨_, rfl⟩
  replace H : (spec_DrawPlaces.l0 k y389 0 t382 t387 t388) = some r := by first | (rw [hy389]; with_reducible exact H) | (have H2_ := (Option.bind_some _ _).symm.trans H; rw [hy389]; with_reducible exact H2_) | (have H2_ := (Option.bind_some _ _).symm.trans H; with_reducible exact H2_) | with_reducible exact H | (rw [hy389]; exact H) | exact H
  have Ny389 := Aside0.mk hy389
  clear hy389
  have H' := Aside0.mk H
  clear H
  go_enter Try.func25, Try.ntmps25
  go_wp2_with (first | ((with_reducible refine gate_callee (f := 65) rfl ?_); refine goesL_ (some 7) rfl rfl Try.func65 (by kernel_rfl) rfl #[.slice A0 l0.length c0] rfl (by (try simp only [List.map_toArray, List.map_cons, List.map_nil]); first | done | rfl | (simp only [List.length_drop, List.length_take]; rfl)) ?_; (with_reducible refine (spec_l01New.calls k _ _ l0 t382 t383 t384 w _ ?side1 ?side2 ?side3 A2.out).mono ?_); (case side1 => repeat (first | (with_reducible first | exact HB.out | apply below_alloc | apply pw_below_drewN | apply below_drew1) | exact HB.out)); (case side2 => exact HR0.out); (case side3 => exact HC0.out); rintro e w4 ⟨g385, rfl, hi, hb, hb2⟩; refine ⟨_, rfl, ?_⟩; have n0_ := Aside0.mk (hb); have n1_ := Aside0.mk (hi); clear HB; have HB := n0_; have HI385 := n1_; clear n0_ n1_; (try clear hb); (try clear hb2); (try clear hk); (try clear hi)) | ((with_reducible refine gate_callee (f := 66) rfl ?_); refine goesL_ (some 9) rfl rfl Try.func66 (by kernel_rfl) rfl #[.pointer (some ⟨g385, 0, none⟩)] rfl (by (try simp only [List.map_toArray, List.map_cons, List.map_nil]); first | done | rfl | (simp only [List.length_drop, List.length_take]; rfl)) ?_; (with_reducible refine (spec_l01Byte.calls g385 t382 t383 t384 t386 t387 t388 w _ ?side1 ?side2 A3.out).mono ?_); (case side1 => repeat (first | (with_reducible first | exact HI385.out | apply IsS88.alloc | apply IsS88.drewN | apply IsS88.drew | apply IsS88.set_1 | apply IsS88.set_2) | exact HI385.out)); (case side2 => repeat (first | (with_reducible first | exact HB.out | apply below_alloc | apply pw_below_drewN | apply below_drew1 | refine below_set ?_ (IsS88.ge HI385.out)) | exact HB.out)); rintro e w5 ⟨rfl, hi, hb, hk⟩; refine ⟨_, rfl, ?_⟩; have n0_ := Aside0.mk (hb); have n1_ := Aside0.mk (hi); clear HB; clear HI385; have HB := n0_; have HI385 := n1_; clear n0_ n1_; (try clear hb); (try clear hb2); (try clear hk); (try clear hi)) | ((with_reducible refine gate_dst (N := 10) rfl ?_); refine Kd.R_lit (Kd.int .i64) _ 3 ?hg (N := 10) ?hd (xs := ([] : List Int)) (inner := []) (ok := fun _ => True) (okp := fun _ => True) ?hr ?hp (fun _ hk => hk) trivial (Below.refl _ _) (Nat.le_refl _) (by simp) ?_; (case hd => rfl); (case hg => rfl); (case hr => first | (go_simp; done) | (go_simp; rfl)); (case hp => exact (Reps.none _ _)); intro v390 w6 ho7 hb hg_ hnew_; clear hg_ hnew_; (first | rw [← Ny389.out] at ho7 | (simp only [Int.reduceToNat] at ho7; rw [← Ny389.out] at ho7)); have n0_ := Aside0.mk (Kd.R_lower ho7 (below_size (by repeat (first | (with_reducible first | exact HB.out | apply below_alloc | apply pw_below_drewN | apply below_drew1 | refine below_set ?_ (IsS88.ge HI385.out)) | exact HB.out)))); have n1_ := Aside0.mk (IsS88.below (by repeat (first | (with_reducible first | exact HI385.out | apply IsS88.alloc | apply IsS88.drewN | apply IsS88.drew | apply IsS88.set_1 | apply IsS88.set_2) | exact HI385.out)) hb); have n2_ := Aside0.mk (below_step (by repeat (first | (with_reducible first | exact HB.out | apply below_alloc | apply pw_below_drewN | apply below_drew1 | refine below_set ?_ (IsS88.ge HI385.out)) | exact HB.out)) hb); clear HI385; clear HB; have HO391 := n0_; have HI385 := n1_; have HB := n2_; clear n0_ n1_ n2_; clear hb ho7))
  go_loopg [4, 5] k (fun kq v4 v5 w' => ∃ (x4_1 : List Int) (x5_1 : Int) (x386001_1 : Int) (x386002_1 : Int), v5 = .int .i64 x5_1 ∧ Aside0 (spec_DrawPlaces.l0 kq x4_1 x5_1 t382 x386001_1 x386002_1 = some r) ∧ Aside0 (kq ≤ k) ∧ Aside0 (Kd.R (Kd.int .i64) 3 w' w.heap.size (fun _ => True) v4 x4_1) ∧ Aside0 (IsS88 w w' g385 t382 x386001_1 x386002_1) ∧ Aside0 (Below w.heap.size w w'))
  case atStart => exact ⟨(y389), (0), (t387), (t388), (by first | rfl | (simp; done) | (simp [*]; done)), H', ⟨Nat.le_refl _⟩, ⟨by (with_reducible repeat (first | apply Kd.R_alloc | apply Kd.R_drewN | apply Kd.R_drew)); exact HO391.out⟩, ⟨by repeat (first | (with_reducible first | exact HI385.out | apply IsS88.alloc | apply IsS88.drewN | apply IsS88.drew | apply IsS88.set_1 | apply IsS88.set_2) | exact HI385.out)⟩, ⟨by repeat (first | (with_reducible first | exact HB.out | apply below_alloc | apply pw_below_drewN | apply below_drew1 | refine below_set ?_ (IsS88.ge HI385.out)) | exact HB.out)⟩⟩
  case round =>
    clear H'
    try clear c2
    try clear p2
    try clear c6
    obtain ⟨x4_1, x5_1, x386001_1, x386002_1, rfl, HA, HK1, HO_4, HI385, HB⟩ := hrel
    cases gk with
    | zero => exact absurd HA.out (by simp [spec_DrawPlaces.l0])
    | succ k1 =>
      have H := HA.out
      clear HA
      simp only [spec_DrawPlaces.l0] at H
      by_cases c8 : x5_1 < 12
      · rw [if_pos c8] at H
        have c8b0 : decide (x5_1 < 12) = true := decide_eq_true c8
        clear c8
        replace H := Option.bind_eq_some_iff.mp H
        obtain ⟨⟨t392, t393, t394⟩, A90, H⟩ := H
        replace H : (if x4_1.length < 17592186044416 then (spec_DrawPlaces.l0 k1 (x4_1 ++ [t392]) (wrap64 (x5_1 + 1)) t382 t393 t394) else (none)) = some r := H
        have A9 := Aside0.mk A90
        clear A90
        by_cases c10 : x4_1.length < 17592186044416
        · rw [if_pos c10] at H
          have LMc10 := Aside0.mk c10
          clear c10
          obtain ⟨y395, hy395⟩ : ∃ y_ : List Int, y_ = (x4_1 ++ [t392]) := ⟨_, rfl⟩
          replace H : (spec_DrawPlaces.l0 k1 y395 (wrap64 (x5_1 + 1)) t382 t393 t394) = some r := by first | (rw [hy395]; with_reducible exact H) | (have H2_ := (Option.bind_some _ _).symm.trans H; rw [hy395]; with_reducible exact H2_) | (have H2_ := (Option.bind_some _ _).symm.trans H; with_reducible exact H2_) | with_reducible exact H | (rw [hy395]; exact H) | exact H
          have Ny395 := Aside0.mk hy395
          clear hy395
          have H' := Aside0.mk H
          clear H
          go_wp2_with (first | ((with_reducible refine gate_callee (f := 67) rfl ?_); refine goesL_ (some 17) rfl rfl Try.func67 (by kernel_rfl) rfl #[.pointer (some ⟨g385, 0, none⟩), .int .i64 10000] rfl (by (try simp only [List.map_toArray, List.map_cons, List.map_nil]); first | done | rfl | (simp only [List.length_drop, List.length_take]; rfl)) ?_; (with_reducible refine (spec_l01Below.calls g385 t382 x386001_1 x386002_1 10000 t392 t393 t394 w _ ?side1 ?side2 A9.out).mono ?_); (case side1 => repeat (first | (with_reducible first | exact HI385.out | apply IsS88.alloc | apply IsS88.drewN | apply IsS88.drew | apply IsS88.set_1 | apply IsS88.set_2) | exact HI385.out)); (case side2 => repeat (first | (with_reducible first | exact HB.out | apply below_alloc | apply pw_below_drewN | apply below_drew1 | refine below_set ?_ (IsS88.ge HI385.out)) | exact HB.out)); rintro e w11 ⟨rfl, hi, hb, hk⟩; refine ⟨_, rfl, ?_⟩; have n0_ := Aside0.mk (Kd.R_mono (Kd.R_keep (IsS88.apart (show IsS88 w _ g385 t382 x386001_1 x386002_1 from by repeat (first | (with_reducible first | exact HI385.out | apply IsS88.alloc | apply IsS88.drewN | apply IsS88.drew | apply IsS88.set_1 | apply IsS88.set_2) | exact HI385.out)) (by (with_reducible repeat (first | apply Kd.R_alloc | apply Kd.R_drewN | apply Kd.R_drew)); exact HO_4.out) (by decide)) hk (fun _ h => h.2)) (fun _ h => h.1)); have n1_ := Aside0.mk (hb); have n2_ := Aside0.mk (hi); clear HO_4; clear HB; clear HI385; have HO_4 := n0_; have HB := n1_; have HI385 := n2_; clear n0_ n1_ n2_; (try clear hb); (try clear hb2); (try clear hk); (try clear hi)) | ((with_reducible refine gate_builtin (b := .append) (xs := #[.tmp 15, .tmp 18]) rfl ?_); at_builtin; refine Kd.R_append (Kd.int .i64) (w0 := w) w.heap.size rfl (.tmp 15) (.tmp 18) 22 3 (.int .i64 0) 8 rfl Try.underlying22 info3 rfl (by decide) (by omega) u4 x4_1 t392 [.int .i64 t392] (fun _ => True) (fun _ => False) rfl rfl ?aP (fun _ hk => hk.elim) ?aF ?aO ?aB ?aS ?aL ?_; (case aP => exact rfl); (case aB => exact (by repeat (first | (with_reducible first | exact HB.out | apply below_alloc | apply pw_below_drewN | apply below_drew1 | refine below_set ?_ (IsS88.ge HI385.out)) | exact HB.out))); (case aF => exact (fun _ _ => trivial)); (case aO => exact (by (with_reducible repeat (first | apply Kd.R_alloc | apply Kd.R_drewN | apply Kd.R_drew)); exact HO_4.out)); (case aS => exact (below_size (by repeat (first | (with_reducible first | exact HB.out | apply below_alloc | apply pw_below_drewN | apply below_drew1 | refine below_set ?_ (IsS88.ge HI385.out)) | exact HB.out)))); (case aL => have := LMc10.out; omega); intro v396 w12 ho hb hg hat; rw [← Ny395.out] at ho; have n0_ := Aside0.mk (IsS88.grown (by repeat (first | (with_reducible first | exact HI385.out | apply IsS88.alloc | apply IsS88.drewN | apply IsS88.drew | apply IsS88.set_1 | apply IsS88.set_2) | exact HI385.out)) hg (IsS88.own_ne HI385.out HO_4.out (by decide))); have n1_ := Aside0.mk (hb); have n2_ := Aside0.mk (ho); clear HI385; clear HB; clear HO_4; have HI385 := n0_; have HB := n1_; have HO397 := n2_; clear n0_ n1_ n2_; clear ho hb hg hat))
          go_roundg k1
          case measure => have := HK1.out; omega
          case rel => exact ⟨(y395), (wrap64 (x5_1 + 1)), (t393), (t394), (by first | rfl | (simp; done) | (simp [*]; done)), H', ⟨by have := HK1.out; omega⟩, ⟨by (with_reducible repeat (first | apply Kd.R_alloc | apply Kd.R_drewN | apply Kd.R_drew)); exact HO397.out⟩, ⟨by repeat (first | (with_reducible first | exact HI385.out | apply IsS88.alloc | apply IsS88.drewN | apply IsS88.drew | apply IsS88.set_1 | apply IsS88.set_2) | exact HI385.out)⟩, ⟨by repeat (first | (with_reducible first | exact HB.out | apply below_alloc | apply pw_below_drewN | apply below_drew1 | refine below_set ?_ (IsS88.ge HI385.out)) | exact HB.out)⟩⟩
        · rw [if_neg c10] at H
          exact absurd H (by simp)
      · rw [if_neg c8] at H
        have c8b0 : decide (x5_1 < 12) = false := decide_eq_false c8
        clear c8
        obtain rfl := Option.some.inj H
        go_wp2
        go_ret
        exact ⟨_, by first | rfl | (simp [errW_none, errW_some] <;> rfl) | (simp [*, errW_none, errW_some] <;> rfl), by (with_reducible repeat (first | apply Kd.R_alloc | apply Kd.R_drewN | apply Kd.R_drew)); exact HO_4.out, by repeat (first | (with_reducible first | exact HB.out | apply below_alloc | apply pw_below_drewN | apply below_drew1 | refine below_set ?_ (IsS88.ge HI385.out)) | exact HB.out)⟩

end Go.Proofs.Ytcnejiflpioaiaa.Pf
end

section
/- What is proved here: the reference's reader of draws always answers, and its numbers lie where they should. No conditions but that the bytes are no longer than a Go slice can be. -/
set_option linter.unusedVariables false
set_option linter.unusedSimpArgs false
namespace Go.Proofs.Ytcnejiflpioaiaa.Draw
open Go.RowKit Go.Proofs.Ytcnejiflpioaiaa.Pf Go.Proofs.YtcnejiflpioaiaaW.PrintWords

theorem wrapd {i : Int} (h0 : -9223372036854775808 ≤ i) (h : i ≤ 9223372036854775807) : wrap64 i = i := by
  unfold wrap64; omega
theorem Ev.one {α : Type} {g : Nat → Option α} {r : α} (h : ∀ k, g (k + 1) = some r) : Ev g r :=
  ⟨1, fun k hk => by obtain ⟨k, rfl⟩ : ∃ m, k = m + 1 := ⟨k - 1, by omega⟩; exact h k⟩
theorem and_255 (x : Int) : 0 ≤ Go.bits .and .i64 x 255 ∧ Go.bits .and .i64 x 255 ≤ 255 := by
  have h : (BitVec.ofInt (IntKind.bits .i64) 255).toNat = 255 := by decide
  simp only [Go.bits, BitVec.toNat_and, h]
  generalize (BitVec.ofInt _ x).toNat = a
  have : a &&& 255 ≤ 255 := Nat.and_le_right
  rw [IntKind.wrap_i64]
  omega
/-- a reader's state: its place lies in the bytes -/
def Okc (b : List Int) (i : Int) : Prop := 0 ≤ i ∧ i ≤ 9223372036854775807 ∧ b.length ≤ 9223372036854775807
theorem byte_some (b : List Int) (i h : Int) (ho : Okc b i) : ∃ x i' h', spec_l01Byte.f b i h = some (x, i', h') ∧ 0 ≤ x ∧ x ≤ 255 ∧ Okc b i' := by
  obtain ⟨h0, h1, h2⟩ := ho
  unfold spec_l01Byte.f
  by_cases c : i < (b.length : Int)
  · rw [if_pos c, if_pos h0, wrapd (i := i + 1) (by omega) (by omega)]
    exact ⟨_, _, _, rfl, (and_255 _).1, (and_255 _).2, by omega, by omega, h2⟩
  · rw [if_neg c]
    exact ⟨_, _, _, rfl, (and_255 _).1, (and_255 _).2, h0, h1, h2⟩
theorem below_some (b : List Int) (i h n : Int) (ho : Okc b i) (hn : 0 < n) (hn2 : n ≤ 4294967296) : ∃ x i' h', spec_l01Below.f b i h n = some (x, i', h') ∧ 0 ≤ x ∧ x < n ∧ Okc b i' := by
  unfold spec_l01Below.f
  rw [if_neg (by omega)]
  by_cases c : n ≤ 256
  · obtain ⟨x, i1, h1, e1, x0, x1, o1⟩ := byte_some b i h ho
    rw [if_pos c, e1]
    simp only [Option.bind_some]
    rw [if_neg (by omega)]
    exact ⟨_, _, _, rfl, Int.tmod_nonneg _ x0, Int.tmod_lt_of_pos _ hn, o1⟩
  · obtain ⟨x, i1, h1, e1, x0, x1, o1⟩ := byte_some b i h ho
    obtain ⟨y, i2, h2, e2, y0, y1, o2⟩ := byte_some b i1 h1 o1
    obtain ⟨z, i3, h3, e3, z0, z1, o3⟩ := byte_some b i2 h2 o2
    obtain ⟨u, i4, h4, e4, u0, u1, o4⟩ := byte_some b i3 h3 o3
    rw [if_neg c]
    simp only [e1, e2, e3, e4, Option.bind_some]
    rw [if_neg (by omega), wrapd (i := x * 16777216) (by omega) (by omega), wrapd (i := y * 65536) (by omega) (by omega), wrapd (i := z * 256) (by omega) (by omega), wrapd (i := x * 16777216 + y * 65536) (by omega) (by omega), wrapd (i := x * 16777216 + y * 65536 + z * 256) (by omega) (by omega), wrapd (by omega) (by omega)]
    exact ⟨_, _, _, rfl, Int.tmod_nonneg _ (by omega), Int.tmod_lt_of_pos _ hn, o4⟩
theorem new_l0 (b : List Int) (hb : b.length ≤ 9223372036854775807) : ∀ (d i : Nat) (h : Int), i + d = b.length → ∃ h', Ev (fun k => spec_l01New.l0 k b h (i : Int)) (b, 0, h')
  | 0, i, h, hi => ⟨h, Ev.one fun k => by
      simp only [spec_l01New.l0]
      rw [if_neg (by omega)]⟩
  | d + 1, i, h, hi => by
    by_cases c : (i : Int) < 4000
    · obtain ⟨h', he⟩ := new_l0 b hb d (i + 1) (Go.bits .and .i64 (wrap64 ((wrap64 ((wrap64 (h * 131)) + (wrap64 (rd b (i : Int))))) + 7)) 1073741823) (by omega)
      refine ⟨h', Ev.step (fun k => ?_) he⟩
      simp only [spec_l01New.l0]
      rw [if_pos (by omega), if_pos c, if_pos (by omega), wrapd (i := (i : Int) + 1) (by omega) (by omega)]
      rfl
    · refine ⟨h, Ev.one fun k => ?_⟩
      simp only [spec_l01New.l0]
      rw [if_pos (by omega), if_neg c]
theorem new_ev (b : List Int) (hb : b.length ≤ 9223372036854775807) : ∃ h, Ev (fun k => spec_l01New.f k b) (b, 0, h) := by
  obtain ⟨h, he⟩ := new_l0 b hb b.length 0 (wrap64 (76801 + (b.length : Int))) (by omega)
  exact ⟨h, he⟩
theorem ok0 (b : List Int) (hb : b.length ≤ 9223372036854775807) : Okc b 0 := ⟨by omega, by omega, hb⟩
theorem once_some (b : List Int) (i h n : Int) (ho : Okc b i) (hn : 0 < n) (hn2 : n ≤ 4294967296) : ∃ x i' h', spec_l01Once.f b i h n = some (x, i', h') ∧ Okc b i' := by
  obtain ⟨x, i1, h1, e1, _, _, o1⟩ := below_some b i h n ho hn hn2
  exact ⟨x == 0, i1, h1, by simp only [spec_l01Once.f, e1, Option.bind_some], o1⟩
theorem pick_some (b : List Int) (i h : Int) (l : List Int) (ho : Okc b i) (hl : 0 < l.length) (hl2 : l.length ≤ 1000) : ∃ x i' h', spec_l01PickInt.f b i h l = some (x, i', h') ∧ x ∈ l ∧ Okc b i' := by
  obtain ⟨x, i1, h1, e1, x0, x1, o1⟩ := below_some b i h (l.length : Int) ho (by omega) (by omega)
  have hx : x.toNat < l.length := by omega
  refine ⟨rd l x, i1, h1, ?_, ?_, o1⟩
  · simp only [spec_l01PickInt.f, e1, Option.bind_some]
    rw [if_pos x0, if_pos x1]
  · unfold rd
    rw [List.getD_eq_getElem?_getD, List.getElem?_eq_getElem hx, Option.getD_some]
    exact List.getElem_mem hx
theorem places_l0 (b : List Int) : ∀ (d : Nat) (j : Nat) (xs : List Int) (i h : Int), j + d = 12 → xs.length = j → (∀ x ∈ xs, 0 ≤ x ∧ x ≤ 9999) → Okc b i →
    ∃ ys : List Int, ys.length = 12 ∧ (∀ x ∈ ys, 0 ≤ x ∧ x ≤ 9999) ∧ Ev (fun k => spec_DrawPlaces.l0 k xs (j : Int) b i h) ys
  | 0, j, xs, i, h, hj, hl, hx, ho => ⟨xs, by omega, hx, Ev.one fun k => by
      simp only [spec_DrawPlaces.l0]
      rw [if_neg (by omega)]⟩
  | d + 1, j, xs, i, h, hj, hl, hx, ho => by
    obtain ⟨x, i1, h1, e1, x0, x1, o1⟩ := below_some b i h 10000 ho (by decide) (by decide)
    obtain ⟨ys, y1, y2, y3⟩ := places_l0 b d (j + 1) (xs ++ [x]) i1 h1 (by omega) (by simp [hl]) (fun z hz => by
      rcases List.mem_append.1 hz with hz | hz
      · exact hx z hz
      · rw [List.mem_singleton.1 hz]; omega) o1
    refine ⟨ys, y1, y2, Ev.step (fun k => ?_) y3⟩
    simp only [spec_DrawPlaces.l0]
    rw [if_pos (by omega), e1, Option.bind_some, if_pos (by omega), wrapd (by omega) (by omega)]
    rfl
theorem places_ev (b : List Int) (hb : b.length ≤ 9223372036854775807) : ∃ ys : List Int, ys.length = 12 ∧ (∀ x ∈ ys, 0 ≤ x ∧ x ≤ 9999) ∧ Ev (fun k => spec_DrawPlaces.f k b) ys := by
  obtain ⟨h, K1, e1⟩ := new_ev b hb
  obtain ⟨x, i1, h1, e2, _, _, o1⟩ := byte_some b 0 h (ok0 b hb)
  obtain ⟨ys, y1, y2, K2, y3⟩ := places_l0 b 12 0 [] i1 h1 (by omega) rfl (fun z hz => by cases hz) o1
  refine ⟨ys, y1, y2, K1 + K2, fun k hk => ?_⟩
  have g1 := e1 k (by omega)
  have g2 := y3 k (by omega)
  dsimp only at g1 g2 ⊢
  simp only [spec_DrawPlaces.f, g1, Option.bind_some, e2]
  exact g2
end Go.Proofs.Ytcnejiflpioaiaa.Draw
end

section
/- What is proved here: the reference's draws of lists of numbers always answer, and the lists are short. No conditions but that the bytes are no longer than a Go slice can be. -/
set_option linter.unusedVariables false
set_option linter.unusedSimpArgs false
namespace Go.Proofs.Ytcnejiflpioaiaa.Draw
open Go.RowKit Go.Proofs.Ytcnejiflpioaiaa.Pf Go.Proofs.YtcnejiflpioaiaaW.PrintWords

theorem num_some (b : List Int) (i h : Int) (ho : Okc b i) : ∃ x i' h', spec_l06Num.f b i h = some (x, i', h') ∧ Okc b i' := by
  obtain ⟨x, i1, h1, e1, _, _, o1⟩ := below_some b i h 256 ho (by decide) (by decide)
  obtain ⟨y, i2, h2, e2, _, o2⟩ := pick_some b i1 h1 [0, 1, 2, 1008, 1009, 1010, (-1), wrap64 (x * 3), 500, (-9223372036854775808), 9223372036854775807] o1 (by simp) (by simp)
  exact ⟨y, i2, h2, by simp only [spec_l06Num.f, e1, Option.bind_some, e2], o2⟩
theorem poly_l0 (b : List Int) : ∀ (d j : Nat) (xs : List Int) (i h : Int), j + d = 8 → xs.length = j → Okc b i →
    ∃ (ys : List Int) (i' h' : Int), ys.length ≤ 65 ∧ Okc b i' ∧ Ev (fun k => spec_l14Poly.l0 k xs (j : Int) b i h) (ys, i', h') := by
  intro d
  induction d with
  | zero =>
    intro j xs i h hj hl ho
    obtain ⟨x, i1, h1, e1, x0, x1, o1⟩ := below_some b i h 8 ho (by decide) (by decide)
    obtain ⟨y, i2, h2, e2, o2⟩ := once_some b i1 h1 16 o1 (by decide) (by decide)
    cases y with
    | true =>
      obtain ⟨z, i3, h3, e3, z0, z1, o3⟩ := below_some b i2 h2 2 o2 (by decide) (by decide)
      refine ⟨(List.replicate (64 + z).toNat (0 : Int)).set 5 3, i3, h3, by simp; omega, o3, Ev.one fun k => ?_⟩
      simp only [spec_l14Poly.l0, e1, Option.bind_some]
      rw [if_neg (by omega)]
      simp only [e2, Option.bind_some, if_true, e3]
      rw [wrapd (by omega) (by omega), if_pos (by omega), if_pos (by omega), if_pos (by simp; omega)]
      rfl
    | false =>
      refine ⟨xs, i2, h2, by omega, o2, Ev.one fun k => ?_⟩
      simp only [spec_l14Poly.l0, e1, Option.bind_some]
      rw [if_neg (by omega)]
      simp [e2]
  | succ d ih =>
    intro j xs i h hj hl ho
    obtain ⟨x, i1, h1, e1, x0, x1, o1⟩ := below_some b i h 8 ho (by decide) (by decide)
    by_cases c : (j : Int) < x
    · obtain ⟨y, i2, h2, e2, o2⟩ := num_some b i1 h1 o1
      obtain ⟨ys, i', h', r1, r2, r3⟩ := ih (j + 1) (xs ++ [y]) i2 h2 (by omega) (by simp [hl]) o2
      refine ⟨ys, i', h', r1, r2, Ev.step (fun k => ?_) r3⟩
      simp only [spec_l14Poly.l0, e1, Option.bind_some]
      rw [if_pos c]
      simp only [e2, Option.bind_some]
      rw [if_pos (by omega), wrapd (by omega) (by omega)]
      rfl
    · obtain ⟨y, i2, h2, e2, o2⟩ := once_some b i1 h1 16 o1 (by decide) (by decide)
      cases y with
      | true =>
        obtain ⟨z, i3, h3, e3, z0, z1, o3⟩ := below_some b i2 h2 2 o2 (by decide) (by decide)
        refine ⟨(List.replicate (64 + z).toNat (0 : Int)).set 5 3, i3, h3, by simp; omega, o3, Ev.one fun k => ?_⟩
        simp only [spec_l14Poly.l0, e1, Option.bind_some]
        rw [if_neg c]
        simp only [e2, Option.bind_some, if_true, e3]
        rw [wrapd (by omega) (by omega), if_pos (by omega), if_pos (by omega), if_pos (by simp; omega)]
        rfl
      | false =>
        refine ⟨xs, i2, h2, by omega, o2, Ev.one fun k => ?_⟩
        simp only [spec_l14Poly.l0, e1, Option.bind_some]
        rw [if_neg c]
        simp [e2]
theorem poly_ev (b : List Int) (i h : Int) (ho : Okc b i) : ∃ (ys : List Int) (i' h' : Int), ys.length ≤ 65 ∧ Okc b i' ∧ Ev (fun k => spec_l14Poly.f k b i h) (ys, i', h') := poly_l0 b 8 0 [] i h (by omega) rfl ho
theorem pair_ev (b : List Int) (hb : b.length ≤ 9223372036854775807) : ∃ xs ys : List Int, xs.length ≤ 65 ∧ ys.length ≤ 65 ∧ Ev (fun k => spec_l14Pair.f k b) (xs, ys) := by
  obtain ⟨h, K1, e1⟩ := new_ev b hb
  obtain ⟨xs, i1, h1, l1, o1, K2, e2⟩ := poly_ev b 0 h (ok0 b hb)
  obtain ⟨ys, i2, h2, l2, o2, K3, e3⟩ := poly_ev b i1 h1 o1
  refine ⟨xs, ys, l1, l2, K1 + K2 + K3, fun k hk => ?_⟩
  have g1 := e1 k (by omega)
  have g2 := e2 k (by omega)
  have g3 := e3 k (by omega)
  dsimp only at g1 g2 g3 ⊢
  simp only [spec_l14Pair.f, g1, g2, g3, Option.bind_some]
theorem through_ev (b : List Int) (hb : b.length ≤ 9223372036854775807) : ∃ xs : List Int, xs.length ≤ 65 ∧ Ev (fun k => spec_DrawPolyThrough.f k b) xs := by
  obtain ⟨h, K1, e1⟩ := new_ev b hb
  obtain ⟨y, i2, h2, e2, o2⟩ := once_some b 0 h 12 (ok0 b hb) (by decide) (by decide)
  cases y with
  | true =>
    obtain ⟨z, i3, h3, e3, z0, z1, o3⟩ := below_some b i2 h2 2 o2 (by decide) (by decide)
    refine ⟨List.replicate (16 + z).toNat 0, by simp; omega, K1, fun k hk => ?_⟩
    have g1 := e1 k hk
    dsimp only at g1 ⊢
    simp only [spec_DrawPolyThrough.f, g1, e2, e3, Option.bind_some, if_true]
    rw [wrapd (by omega) (by omega), if_pos (by omega), if_pos (by omega)]
  | false =>
    obtain ⟨xs, i1, h1, l1, o1, K2, e3⟩ := poly_ev b i2 h2 o2
    refine ⟨xs, l1, K1 + K2, fun k hk => ?_⟩
    have g1 := e1 k (by omega)
    have g3 := e3 k (by omega)
    dsimp only at g1 g3 ⊢
    simp [spec_DrawPolyThrough.f, g1, e2, g3]
end Go.Proofs.Ytcnejiflpioaiaa.Draw
end

section
/- What is proved here: whatever two lists are drawn, what the program divides is put together again, what is left is shorter, and all is as the reference has it. No conditions. -/
set_option linter.unusedVariables false
set_option linter.unusedSimpArgs false
namespace Go.Proofs.Ytcnejiflpioaiaa.Pure
open Go.RowKit Go.Proofs.Ytcnejiflpioaiaa.Pf Go.Proofs.YtcnejiflpioaiaaW.PrintWords Go.Proofs.Ytcnejiflpioaiaa.Ints Go.Proofs.Ytcnejiflpioaiaa.Poly

theorem sameInts_l0 (xs : List Int) (hn : xs.length ≤ 9223372036854775807) (d : Nat) : ∀ (i : Int) (k : Nat), 0 ≤ i → (xs.length : Int) - i = d → d < k → laws_sameInts.l0 k xs xs i = some true := by
  induction d with
  | zero =>
    intro i k h0 hd hk
    obtain ⟨k, rfl⟩ : ∃ m, k = m + 1 := ⟨k - 1, by omega⟩
    simp only [laws_sameInts.l0]
    rw [if_neg (by omega)]
  | succ d ih =>
    intro i k h0 hd hk
    obtain ⟨k, rfl⟩ : ∃ m, k = m + 1 := ⟨k - 1, by omega⟩
    simp only [laws_sameInts.l0]
    rw [if_pos (by omega), if_pos h0, if_pos (by omega), wrap_in (by omega) (by omega), if_pos trivial]
    exact ih (i + 1) k (by omega) (by omega) (by omega)
theorem sameInts_same (xs : List Int) (hn : xs.length ≤ 9223372036854775807) (k : Nat) (hk : xs.length < k) : laws_sameInts.f k xs xs = some true := by
  unfold laws_sameInts.f
  rw [if_pos rfl]
  exact sameInts_l0 xs hn xs.length 0 k (by omega) (by omega) hk
theorem zero3 : (pzero 3).length = 4 := by decide +kernel

theorem FnPolysDivided : laws_FnPolysDivided.Pure := by
  intro b hb _ _
  unfold maxLen at hb
  by_cases hbig : (b.length : Int) > 1048576
  · exact ⟨0, by simp only [laws_FnPolysDivided.f, laws_big.f, Option.bind_some]; rw [if_pos (decide_eq_true hbig)]⟩
  obtain ⟨xs, ys, hx, hy, K0, h0⟩ := Go.Proofs.Ytcnejiflpioaiaa.Draw.pair_ev b (by omega)
  obtain ⟨K1, h1⟩ := spec_PolyDivide_ev xs ys
  obtain ⟨K2, h2⟩ := impl_PolyDivide_ev xs ys
  obtain ⟨K3, h3⟩ := impl_PolyTrim_ev ys (by omega)
  obtain ⟨K4, h4⟩ := impl_PolyTrim_ev xs (by omega)
  obtain ⟨K5, h5⟩ := spec_PolyTrim_ev xs (by omega)
  obtain ⟨K6, h6⟩ := impl_PolyMul_ev (pdivide xs ys).1 (trim ys)
  obtain ⟨K8, h8⟩ := impl_PolyZero_ev 3
  have hn := pdivide_length xs ys
  have hm := pmul_length (pdivide xs ys).1 (trim ys)
  obtain ⟨K7, h7⟩ := impl_PolyAdd_ev (pmul (pdivide xs ys).1 (trim ys)) (pdivide xs ys).2 (by omega) (by omega)
  have lx := trim_length xs
  have ly := trim_length ys
  have hall : ∀ k, K0 + K1 + K2 + K3 + K4 + K5 + K6 + K7 + K8 + 200 < k → laws_FnPolysDivided.f (k + 2) b = some true := by
    intro k hk
    have g0 := h0 (k + 2) (by omega)
    have g1 := h1 (k + 2) (by omega)
    have g2 := h2 (k + 2) (by omega)
    have s1 := sameInts_same (pdivide xs ys).1 (by omega) (k + 2) (by omega)
    have s2 := sameInts_same (pdivide xs ys).2 (by omega) (k + 2) (by omega)
    dsimp only at g0 g1 g2
    simp only [laws_FnPolysDivided.f, laws_big.f, Option.bind_some, spec_DrawPolyDivide.f, g0]
    rw [if_neg (by simpa using hbig)]
    simp only [g1, g2, s1, s2, Option.bind_some, if_true, Bool.not_true]
    rw [laws_FnPolysDivided.j0, if_neg (by simp)]
    by_cases c : xs.length > 64 ∨ ys.length > 64
    · have e : pdivide xs ys = ([], []) := by rw [pdivide, if_pos c]
      have e2 : laws_FnPolysDivided.j1 (k + 1) xs ys [] [] true = some true := by
        rw [laws_FnPolysDivided.j1, if_pos rfl]
        rfl
      rw [e]
      by_cases c1 : (xs.length : Int) > 64
      · rw [if_pos c1]; exact e2
      · rw [if_neg c1, decide_eq_true (by omega)]; exact e2
    · rw [if_neg (by omega), decide_eq_false (by omega), laws_FnPolysDivided.j1, if_neg (by simp)]
      have g3 := h3 k (by omega)
      have g4 := h4 k (by omega)
      have g5 := h5 k (by omega)
      have g6 := h6 k (by omega)
      have g7 := h7 k (by omega)
      have g8 := h8 k (by omega)
      dsimp only at g3 g4 g5 g6 g7 g8
      rw [divide_back xs ys (by omega) (by omega)] at g7
      have s3 := sameInts_same (trim xs) (by omega) k (by omega)
      simp only [g3, g4, g5, g6, g7, g8, s3, Option.bind_some, if_true]
      have hz : (((pzero 3).length : Int) == 4) = true := by rw [zero3]; rfl
      rcases divide_left xs ys (by omega) (by omega) with hl | hl
      · rw [if_pos (by omega), hz]
      · by_cases c2 : ((trim ys).length : Int) = 0
        · rw [if_pos c2, hz]
        · rw [if_neg c2, if_pos (by omega), hz]
  exact ⟨_, hall (K0 + K1 + K2 + K3 + K4 + K5 + K6 + K7 + K8 + 201) (by omega)⟩
end Go.Proofs.Ytcnejiflpioaiaa.Pure
end

section
namespace Go.Proofs.Ytcnejiflpioaiaa.fnPolysDivided
open Go.ChangeShapes Go.WideShapes Go.ChangeAt Go.RowKit
open Go.ChangeMaps (open_string shut_string)
set_option linter.unusedVariables false
theorem own : ownKnob Try.prog.godebug = none := by kernel_rfl
theorem laidOut : laidOutB Try.prog = true := by kernel_rfl
def IsRow (k : IntKind) (w : World) (a : Option Addr) (len cap : Nat) (zs : List Int) : Prop :=
  (a = none ∧ len = 0 ∧ cap = 0 ∧ zs = []) ∨
  ∃ x, a = some x ∧ len ≤ cap ∧ cap ≤ maxLen ∧ zs.length = cap ∧ (∀ i, i < zs.length → w.cell? (x.add i) = some (.int k (zs.getD i 0))) ∧ ∀ n ∈ zs, (Lit.int k n).wf = true
set_option maxRecDepth 100000 in
theorem lifted (os : Os) (started : os.Started) (H : Type) (enc : TypeId × Value → H) :
    ReturnsInHanded {} Try.checked os 13 .any (Rows.fnPolysDividedSpec.pre6 enc Try.prog Try.f13 Rows.fnPolysDividedRow.domain false) (Rows.fnPolysDividedSpec.post enc Try.prog Try.f13 false true false false) := by
  refine returnsInHanded_of_change_sized (C := Try.checked) own started (by kernel_rfl) Try.func13
    (ChangeSpec.witness6 (enc := enc) (C := Try.checked) false ⟨#[], #[.slice none 0 0], []⟩ 8 (by kernel_rfl) (by kernel_rfl) (by kernel_rfl) (by kernel_rfl)) ?_
  intro W base args ds gs before hval0 hW hcnd hsz0 _
  have hsz : (DataW.weightsEach Try.prog (Try.f13.params.toList ++ Rows.fnPolysDividedSpec.plain.varTypes Try.prog) (ds ++ gs)).all (· ≤ reachBytes) = true := hsz0
  have hval : ∀ (j : Nat) t v, Try.f13.params[j]? = some t → args[j]? = some v → Value.okWide Try.prog W .any base t v := hval0
  have hW' := hW
  obtain ⟨p, q, hA0, hV, rfl, hfz, hnd⟩ := hW
  have hA : DataW.TrodAll enc Try.prog W 0 (fun _ => true) true Try.f13.params.toList args.toList ds p := hA0
  rw [Try.params13] at hA hval hsz
  obtain ⟨v0, vs0, d0, ds0, p0, q0, hargs, rfl, rfl, h0, r0⟩ := trodAll_cons hA
  obtain ⟨rfl, rfl, rfl⟩ := trodAll_nil r0
  obtain rfl : args = #[v0] := by cases args; simp_all
  obtain ⟨rfl, rfl⟩ := trodVars_none hV
  obtain ⟨a0, len0, cap0, rfl⟩ := okWide_slice Try.underlying28 (hval 0 28 v0 rfl rfl)
  have k0 := h0
  have lt0 : ∀ x ∈ p0, x.block < W.heap.size := by obtain ⟨m, hm⟩ := k0; exact DataW.trod_lt m _ _ _ hm
  obtain ⟨z0, w0⟩ : ∃ zs, IsRow .u8 W a0 len0 cap0 zs := by
    obtain ⟨fuel, hf⟩ := h0
    rcases open_ints Try.underlying28 Try.underlying5 (by kernel_rfl) hf with ⟨hcs, _⟩ | ⟨x, l, c, zs, hcs, _, hl, hm, hz, _, hcell, hwz⟩
    · simp [Value.cells] at hcs
      obtain ⟨rfl, rfl, rfl⟩ := hcs
      exact ⟨[], .inl ⟨rfl, rfl, rfl, rfl⟩⟩
    · simp [Value.cells] at hcs
      obtain ⟨rfl, rfl, rfl⟩ := hcs
      exact ⟨zs, .inr ⟨_, rfl, hl, hm, by simpa using hz, hcell, hwz⟩⟩
  have y0 : len0 * 1 ≤ 140737488351232 := Go.Proofs.YtcnejiflpioaiaaW.PrintWords.sized_ints hsz (j := 0) (t := 28) rfl rfl Try.underlying28 Try.underlying5 (by kernel_rfl) (by kernel_rfl) h0
  clear hA0 hval0 hsz0 hsz
  refine (Pf.laws_FnPolysDivided.walk Pure.FnPolysDivided a0 len0 cap0 z0 W w0 y0).mono fun e W' ⟨he, bel⟩ => ?_
  subst he
  exact ⟨_, rfl, _, _, _, [], _, [], hW', trodAll_mk1 (shut_bool Try.underlying4 _), (trodAll_cons_mk (Below.trod laidOut (by kernel_rfl) (of_decide_eq_true (by kernel_rfl)) k0 bel lt0) trodAll_mk0), rfl, bel.frame _, fun h => by cases h⟩
theorem over : Rows.fnPolysDividedRow.holds Try.pinned (OpenSpec.ofChange Rows.fnPolysDividedSpec) :=
  OpenClaim.holds_of_wide 13 Try.f13 rfl rfl rfl rfl rfl rfl rfl ⟨rfl, rfl, rfl, rfl, rfl⟩ rfl rfl rfl rfl rfl (by kernel_rfl) Try.func13 (by kernel_rfl)
    (of_decide_eq_true (by kernel_rfl)) (by unfold Func.isWrapper; first | (rw [if_pos (by decide +kernel)]; kernel_rfl) | (rw [if_neg (by decide +kernel)]; exact ⟨rfl, rfl⟩))
    (fun os started H enc _ => lifted os started H enc)
theorem proved : Rows.FnPolysDividedSaid := over
#print axioms proved
end Go.Proofs.Ytcnejiflpioaiaa.fnPolysDivided
namespace Go.Proofs.Ytcnejiflpioaiaa
/-- The row, under a short name, for the claim. -/
theorem fnPolysDivided_holds : Rows.FnPolysDividedSaid := fnPolysDivided.proved
end Go.Proofs.Ytcnejiflpioaiaa
end
