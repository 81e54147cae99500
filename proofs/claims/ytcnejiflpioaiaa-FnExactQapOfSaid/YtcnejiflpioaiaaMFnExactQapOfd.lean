/- What is proved here: part 4 of 5 of the proof of the given statement FnExactQapOf: the contracts of the Go functions that it reaches, the plain facts on lists and numbers, and (in the last part) the statement itself. No conditions beyond the given ones. -/
import Derived.Test.YtcnejiflpioaiaaMFnExactQapOfwSlim
import Derived.Test.YtcnejiflpioaiaaMFnExactQapOfa
import Derived.Test.YtcnejiflpioaiaaMFnExactQapOfb
import Derived.Test.YtcnejiflpioaiaaMFnExactQapOfc
import Derived.OpenShut
import Derived.Test.YtcnejiflpioaiaaMFnExactQapOfwMore
import Derived.Deep.Slices
import Derived.ChangeArms
import Derived.DataReads
import Derived.ChangeShapes

section
namespace Go.Proofs.Ytcnejiflpioaiaa.Pf
open Go.RowKit Go.Proofs.YtcnejiflpioaiaaW.PrintWords Go.Proofs.YtcnejiflpioaiaaW.PrintLast Go.Proofs.YtcnejiflpioaiaaW.PrintMore
attribute [local go_sem] max2_int min2_int max_two min_two max_three min_three max_four min_four   -- for this text's walks alone
set_option linter.unusedVariables false
set_option linter.unusedSimpArgs false

theorem heldQapN (k : Nat) (A0 : Option Addr) (c0 : Nat) (l0 : List (List Int)) (A1 : Option Addr) (c1 : Nat) (l1 : List (List Int)) (A2 : Option Addr) (c2 : Nat) (l2 : List (List Int)) (a1 r : Int) (w : World) (n0 n1 n2 : Nat) (e0 : l0.length = n0) (e1 : l1.length = n1) (e2 : l2.length = n2) (hr0 : Kd.C (Kd.slice 3 (Kd.int .i64)) w A0 l0.length l0) (hc0 : n0 ≤ c0) (hr1 : Kd.C (Kd.slice 3 (Kd.int .i64)) w A1 l1.length l1) (hc1 : n1 ≤ c1) (hr2 : Kd.C (Kd.slice 3 (Kd.int .i64)) w A2 l2.length l2) (hc2 : n2 ≤ c2) (h : laws_heldQap.f k l0 l1 l2 a1 = some r) :
    Calls Try.prog 62 #[.agg #[.slice A0 n0 c0, .slice A1 n1 c1, .slice A2 n2 c2], .int .i64 a1] w fun e w' => e = .returned (.int .i64 r) ∧ Below w.heap.size w w' := by subst e0 e1 e2; exact laws_heldQap.calls k A0 c0 l0 A1 c1 l1 A2 c2 l2 a1 r w hr0 hc0 hr1 hc1 hr2 hc2 h
/-! ### laws_FnExactQapOf: function 14 -/
mutual
def laws_FnExactQapOf.j0 : Nat → Bool → Bool → Bool → Int → Int → List (S92) → List (List Int) → List (List Int) → List (List Int) → Int → Int → List (S40) → List (List Int) → List (List Int) → List (List Int) → Option (Bool)
 | 0, _, _, _, _, _, _, _, _, _, _, _, _, _, _, _ => none
 | k + 1, x5, x8, x40, x432000, x432001, x432002, x449000, x449001, x449002, x455000, x455001, x455002, x466000, x466001, x466002 => if x40 = true then (some false) else ((laws_toSystem.f k x432000 x432001 x432002).bind fun bt467 => ((laws_eqSystem.f k x455000 x455001 x455002 bt467.1 bt467.2.1 bt467.2.2).bind fun t472 => (if t472 = true then ((laws_markSystem.g k x455000 x455001 x455002 1).bind fun b473 => (if b473.1 < 0 then (laws_FnExactQapOf.j1 k x5 true x432000 x432001 x432002 x449000 x449001 x449002 x466000 x466001 x466002) else ((laws_eqQap.f k x466000 x466001 x466002 x449000 x449001 x449002).bind fun t474 => (if t474 = true then (laws_FnExactQapOf.j1 k x5 (x8 != x5) x432000 x432001 x432002 x449000 x449001 x449002 x466000 x466001 x466002) else (laws_FnExactQapOf.j1 k x5 true x432000 x432001 x432002 x449000 x449001 x449002 x466000 x466001 x466002))))) else (some false))))
def laws_FnExactQapOf.j1 : Nat → Bool → Bool → Int → Int → List (S92) → List (List Int) → List (List Int) → List (List Int) → List (List Int) → List (List Int) → List (List Int) → Option (Bool)
 | 0, _, _, _, _, _, _, _, _, _, _, _ => none
 | k + 1, x5, x61, x432000, x432001, x432002, x449000, x449001, x449002, x466000, x466001, x466002 => if x61 = true then (some false) else ((laws_markQap.g k x466000 x466001 x466002 1).bind fun b475 => ((laws_heldQap.f k b475.2.1 b475.2.2.1 b475.2.2.2 1).bind fun t476 => (if t476 < 0 then (some false) else (if t476 = b475.1 then ((laws_toSystem.f k x432000 x432001 x432002).bind fun bt477 => ((impl_QapOf.f k bt477.1 bt477.2.1 bt477.2.2).bind fun bt482 => ((laws_eqQap.f k bt482.1 bt482.2.1 bt482.2.2.1 x449000 x449001 x449002).bind fun t493 => (if t493 = true then (laws_FnExactQapOf.j2 k b475.1 (bt482.2.2.2 != x5) b475.2.1 b475.2.2.1 b475.2.2.2) else (laws_FnExactQapOf.j2 k b475.1 true b475.2.1 b475.2.2.1 b475.2.2.2))))) else (some false)))))
def laws_FnExactQapOf.j2 : Nat → Int → Bool → List (List Int) → List (List Int) → List (List Int) → Option (Bool)
 | 0, _, _, _, _, _ => none
 | k + 1, x10, x87, x466000, x466001, x466002 => if x87 = true then (some false) else ((laws_heldQap.f k x466000 x466001 x466002 1).bind fun t494 => (if t494 < 0 then (some false) else (if t494 = x10 then (some true) else (some false))))
end
def laws_FnExactQapOf.f (k : Nat) (a0_0 : Int) (a0_1 : Int) (l0_2 : List (S92)) : Option (Bool) := (laws_szSystem.f k a0_0 a0_1 l0_2 1048576).bind fun t432 => (if t432 < 0 then (some true) else ((laws_toSystem.f k a0_0 a0_1 l0_2).bind fun bt433 => ((spec_QapOf.f k bt433.1 bt433.2.1 bt433.2.2).bind fun bt438 => ((laws_toSystem.f k a0_0 a0_1 l0_2).bind fun bt449 => ((impl_QapOf.f k bt449.1 bt449.2.1 bt449.2.2).bind fun bt455 => ((laws_eqQap.f k bt455.1 bt455.2.1 bt455.2.2.1 bt438.1 bt438.2.1 bt438.2.2.1).bind fun t466 => (if t466 = true then (laws_FnExactQapOf.j0 k bt438.2.2.2 bt455.2.2.2 (bt455.2.2.2 != bt438.2.2.2) a0_0 a0_1 l0_2 bt438.1 bt438.2.1 bt438.2.2.1 bt449.1 bt449.2.1 bt449.2.2 bt455.1 bt455.2.1 bt455.2.2.1) else (laws_FnExactQapOf.j0 k bt438.2.2.2 bt455.2.2.2 true a0_0 a0_1 l0_2 bt438.1 bt438.2.1 bt438.2.2.1 bt449.1 bt449.2.1 bt449.2.2 bt455.1 bt455.2.1 bt455.2.2.1))))))))
theorem laws_FnExactQapOf.mono_l : ∀ k, (∀ y0 y1 y2 y3 y4 y5 y6 y7 y8 y9 y10 y11 y12 y13 y14, LeO (laws_FnExactQapOf.j0 k y0 y1 y2 y3 y4 y5 y6 y7 y8 y9 y10 y11 y12 y13 y14) (laws_FnExactQapOf.j0 (k + 1) y0 y1 y2 y3 y4 y5 y6 y7 y8 y9 y10 y11 y12 y13 y14)) ∧ (∀ y0 y1 y2 y3 y4 y5 y6 y7 y8 y9 y10, LeO (laws_FnExactQapOf.j1 k y0 y1 y2 y3 y4 y5 y6 y7 y8 y9 y10) (laws_FnExactQapOf.j1 (k + 1) y0 y1 y2 y3 y4 y5 y6 y7 y8 y9 y10)) ∧ (∀ y0 y1 y2 y3 y4, LeO (laws_FnExactQapOf.j2 k y0 y1 y2 y3 y4) (laws_FnExactQapOf.j2 (k + 1) y0 y1 y2 y3 y4))
 | 0 => ⟨fun _ _ _ _ _ _ _ _ _ _ _ _ _ _ _ r h => by simp [laws_FnExactQapOf.j0] at h, fun _ _ _ _ _ _ _ _ _ _ _ r h => by simp [laws_FnExactQapOf.j1] at h, fun _ _ _ _ _ r h => by simp [laws_FnExactQapOf.j2] at h⟩
 | k + 1 => by
  obtain ⟨ih0, ih1, ih2⟩ := laws_FnExactQapOf.mono_l k
  refine ⟨?_, ?_, ?_⟩
  ·intro y0 y1 y2 y3 y4 y5 y6 y7 y8 y9 y10 y11 y12 y13 y14
   unfold laws_FnExactQapOf.j0
   with_reducible repeat' first | exact ih0 _ _ _ _ _ _ _ _ _ _ _ _ _ _ _ | exact ih1 _ _ _ _ _ _ _ _ _ _ _ | exact ih2 _ _ _ _ _ | exact impl_QapOf.mono _ _ _ _ | exact laws_eqQap.mono _ _ _ _ _ _ _ | exact laws_eqSystem.mono _ _ _ _ _ _ _ | exact laws_heldQap.mono _ _ _ _ _ | exact laws_markQap.monog _ _ _ _ _ | exact laws_markSystem.monog _ _ _ _ _ | exact laws_szSystem.mono _ _ _ _ _ | exact laws_toSystem.mono _ _ _ _ | exact spec_QapOf.mono _ _ _ _ | exact LeO.refl _ | exact LeO.none _ | refine LeO.ite ?_ ?_ | refine LeO.bind ?_ (fun _ => ?_)
  ·intro y0 y1 y2 y3 y4 y5 y6 y7 y8 y9 y10
   unfold laws_FnExactQapOf.j1
   with_reducible repeat' first | exact ih0 _ _ _ _ _ _ _ _ _ _ _ _ _ _ _ | exact ih1 _ _ _ _ _ _ _ _ _ _ _ | exact ih2 _ _ _ _ _ | exact impl_QapOf.mono _ _ _ _ | exact laws_eqQap.mono _ _ _ _ _ _ _ | exact laws_eqSystem.mono _ _ _ _ _ _ _ | exact laws_heldQap.mono _ _ _ _ _ | exact laws_markQap.monog _ _ _ _ _ | exact laws_markSystem.monog _ _ _ _ _ | exact laws_szSystem.mono _ _ _ _ _ | exact laws_toSystem.mono _ _ _ _ | exact spec_QapOf.mono _ _ _ _ | exact LeO.refl _ | exact LeO.none _ | refine LeO.ite ?_ ?_ | refine LeO.bind ?_ (fun _ => ?_)
  ·intro y0 y1 y2 y3 y4
   unfold laws_FnExactQapOf.j2
   with_reducible repeat' first | exact ih0 _ _ _ _ _ _ _ _ _ _ _ _ _ _ _ | exact ih1 _ _ _ _ _ _ _ _ _ _ _ | exact ih2 _ _ _ _ _ | exact impl_QapOf.mono _ _ _ _ | exact laws_eqQap.mono _ _ _ _ _ _ _ | exact laws_eqSystem.mono _ _ _ _ _ _ _ | exact laws_heldQap.mono _ _ _ _ _ | exact laws_markQap.monog _ _ _ _ _ | exact laws_markSystem.monog _ _ _ _ _ | exact laws_szSystem.mono _ _ _ _ _ | exact laws_toSystem.mono _ _ _ _ | exact spec_QapOf.mono _ _ _ _ | exact LeO.refl _ | exact LeO.none _ | refine LeO.ite ?_ ?_ | refine LeO.bind ?_ (fun _ => ?_)
theorem laws_FnExactQapOf.mono : ∀ a0 a1 a2 k, LeO (laws_FnExactQapOf.f k a0 a1 a2) (laws_FnExactQapOf.f (k + 1) a0 a1 a2) := by
 intro a0 a1 a2 k
 obtain ⟨ih0, ih1, ih2⟩ := laws_FnExactQapOf.mono_l k
 unfold laws_FnExactQapOf.f
 with_reducible repeat' first | exact ih0 _ _ _ _ _ _ _ _ _ _ _ _ _ _ _ | exact ih1 _ _ _ _ _ _ _ _ _ _ _ | exact ih2 _ _ _ _ _ | exact impl_QapOf.mono _ _ _ _ | exact laws_eqQap.mono _ _ _ _ _ _ _ | exact laws_eqSystem.mono _ _ _ _ _ _ _ | exact laws_heldQap.mono _ _ _ _ _ | exact laws_markQap.monog _ _ _ _ _ | exact laws_markSystem.monog _ _ _ _ _ | exact laws_szSystem.mono _ _ _ _ _ | exact laws_toSystem.mono _ _ _ _ | exact spec_QapOf.mono _ _ _ _ | exact LeO.refl _ | exact LeO.none _ | refine LeO.ite ?_ ?_ | refine LeO.bind ?_ (fun _ => ?_)
set_option maxHeartbeats 8000000 in
set_option maxRecDepth 100000 in
theorem laws_FnExactQapOf.calls (k : Nat) (a0_0 : Int) (a0_1 : Int) (A0_2 : Option Addr) (c0_2 : Nat) (l0_2 : List (S92)) (r : Bool) (w : World) (hr0_2 : Kd.C k92 w A0_2 l0_2.length l0_2) (hc0_2 : l0_2.length ≤ c0_2) (htrue : Aside0 (r = true)) (h : laws_FnExactQapOf.f k a0_0 a0_1 l0_2 = some r) :
  Calls Try.prog 14 #[.agg #[.int .i64 a0_0, .int .i64 a0_1, .slice A0_2 l0_2.length c0_2]] w fun e w' => e = .returned (.bool r) ∧ Below w.heap.size w w' := by
 have hu58 := Try.underlying58
 have hu61 := Try.underlying61
 have hu32 := Try.underlying32
 have HR0_2 := Aside0.mk hr0_2
 have HC0_2 := Aside0.mk hc0_2
 clear hr0_2 hc0_2
 have HB := Aside0.mk (Below.refl w.heap.size w)
 have H : ((laws_szSystem.f k a0_0 a0_1 l0_2 1048576).bind fun t432 => (if t432 < 0 then (some true) else ((laws_toSystem.f k a0_0 a0_1 l0_2).bind fun bt433 => ((spec_QapOf.f k bt433.1 bt433.2.1 bt433.2.2).bind fun bt438 => ((laws_toSystem.f k a0_0 a0_1 l0_2).bind fun bt449 => ((impl_QapOf.f k bt449.1 bt449.2.1 bt449.2.2).bind fun bt455 => ((laws_eqQap.f k bt455.1 bt455.2.1 bt455.2.2.1 bt438.1 bt438.2.1 bt438.2.2.1).bind fun t466 => (if t466 = true then (laws_FnExactQapOf.j0 k bt438.2.2.2 bt455.2.2.2 (bt455.2.2.2 != bt438.2.2.2) a0_0 a0_1 l0_2 bt438.1 bt438.2.1 bt438.2.2.1 bt449.1 bt449.2.1 bt449.2.2 bt455.1 bt455.2.1 bt455.2.2.1) else (laws_FnExactQapOf.j0 k bt438.2.2.2 bt455.2.2.2 true a0_0 a0_1 l0_2 bt438.1 bt438.2.1 bt438.2.2.1 bt449.1 bt449.2.1 bt449.2.2 bt455.1 bt455.2.1 bt455.2.2.1))))))))) = some r := h
 clear h
 replace H := Option.bind_eq_some_iff.mp H
 obtain ⟨t432, A20, H⟩ := H
 have A2 := Aside0.mk A20
 clear A20
 by_cases c3 : t432 < 0
 ·rw [if_pos c3] at H
  have c3b0 := decide_eq_true c3
  clear c3
  obtain rfl := Option.some.inj H
  go_enter Try.func14, Try.ntmps14
  go_wp2_with (first | (refine gB 1 #[.int .i64 a0_0, .int .i64 a0_1, .slice A0_2 l0_2.length c0_2] 58 ?_; intro gb431 hg w4 BK431 hb; have GW431 := bG HB hg; replace HB := bS HB hb; clear hb hg; obtain ⟨hcz5_0, hcz5_1, hcz5_2, hfz5_0, hfz5_1, hfz5_2⟩ := bK3 (w := w4) BK431) | (refine gC (some 16) Try.func54 #[.agg #[.int .i64 a0_0, .int .i64 a0_1, .slice A0_2 l0_2.length c0_2], .int .i64 1048576] ?_; (with_reducible refine (laws_szSystem.calls k a0_0 a0_1 _ _ l0_2 1048576 t432 _ ?side1 ?side2 A2.out).mono ?_); (case side1 => exact cP (Kd.C_below HR0_2.out HB.out)); (case side2 => exact HC0_2.out); rintro e w6 ⟨rfl, hb⟩; refine ⟨_, rfl, ?_⟩; replace BK431 := bB BK431 hb; replace HB := bS HB hb; (try clear hb)))
  go_ret
  exact ⟨rR, bZ HB⟩
 ·rw [if_neg c3] at H
  have c3b0 := decide_eq_false c3
  clear c3
  replace H := Option.bind_eq_some_iff.mp H
  obtain ⟨⟨t433, t434, t435⟩, A70, H⟩ := H
  have A7 := Aside0.mk A70
  clear A70
  replace H := Option.bind_eq_some_iff.mp H
  obtain ⟨⟨t438, t441, t444, t447⟩, A80, H⟩ := H
  have A8 := Aside0.mk A80
  clear A80
  replace H := Option.bind_eq_some_iff.mp H
  obtain ⟨⟨t449, t450, t451⟩, A90, H⟩ := H
  have A9 := Aside0.mk A90
  clear A90
  replace H := Option.bind_eq_some_iff.mp H
  obtain ⟨⟨t455, t458, t461, t464⟩, A100, H⟩ := H
  have A10 := Aside0.mk A100
  clear A100
  have HC11 := Aside0.mk H
  clear H
  go_enter Try.func14, Try.ntmps14
  go_upto_region 8 with (first | (refine gB 1 #[.int .i64 a0_0, .int .i64 a0_1, .slice A0_2 l0_2.length c0_2] 58 ?_; intro gb431 hg w12 BK431 hb; have GW431 := bG HB hg; replace HB := bS HB hb; clear hb hg; obtain ⟨hcz13_0, hcz13_1, hcz13_2, hfz13_0, hfz13_1, hfz13_2⟩ := bK3 (w := w12) BK431) | (refine gC (some 16) Try.func54 #[.agg #[.int .i64 a0_0, .int .i64 a0_1, .slice A0_2 l0_2.length c0_2], .int .i64 1048576] ?_; (with_reducible refine (laws_szSystem.calls k a0_0 a0_1 _ _ l0_2 1048576 t432 _ ?side1 ?side2 A2.out).mono ?_); (case side1 => exact cP (Kd.C_below HR0_2.out HB.out)); (case side2 => exact HC0_2.out); rintro e w14 ⟨rfl, hb⟩; refine ⟨_, rfl, ?_⟩; replace BK431 := bB BK431 hb; replace HB := bS HB hb; (try clear hb); obtain ⟨hcz15_0, hcz15_1, hcz15_2, hfz15_0, hfz15_1, hfz15_2⟩ := bK3 (w := w14) BK431) | (refine gC (some 21) Try.func56 #[.agg #[.int .i64 a0_0, .int .i64 a0_1, .slice A0_2 l0_2.length c0_2]] ?_; (with_reducible refine (laws_toSystem.calls k a0_0 a0_1 _ _ l0_2 t433 t434 t435 _ ?side1 ?side2 A7.out).mono ?_); (case side1 => exact cP (Kd.C_below HR0_2.out HB.out)); (case side2 => exact HC0_2.out); rintro e w16 ⟨v436, rfl, ho0, hb⟩; refine ⟨_, rfl, ?_⟩; have HO437 := Aside0.mk (Kd.S_lower ho0 (below_size (bZ HB))); replace BK431 := bB BK431 hb; replace HB := bS HB hb; (try clear hb); (try clear ho0); obtain ⟨Ao17, co17, eo17⟩ := Kd.S_slice HO437.out; subst eo17) | (refine gC (some 22) Try.func55 #[.agg #[.int .i64 t433, .int .i64 t434, .slice Ao17 t435.length co17]] ?_; (with_reducible refine (spec_QapOf.calls k t433 t434 _ _ t435 t438 t441 t444 t447 _ ?side1 ?side2 A8.out).mono ?_); (case side1 => exact cP ((Kd.S_reads' HO437.out).2.2)); (case side2 => exact (Kd.S_reads' HO437.out).2.1); rintro e w18 ⟨v439, v442, v445, rfl, ho0, ho1, ho2, hb⟩; refine ⟨_, rfl, ?_⟩; replace HO437 := Aside0.mk (Kd.S_below (by (with_reducible repeat (first | apply Kd.S_alloc | apply Kd.S_drewN | apply Kd.S_drew)); exact HO437.out) hb); have HO440 := Aside0.mk (Kd.S_lower ho0 (below_size (bZ HB))); have HO443 := Aside0.mk (Kd.S_lower ho1 (below_size (bZ HB))); have HO446 := Aside0.mk (Kd.S_lower ho2 (below_size (bZ HB))); replace BK431 := bB BK431 hb; replace HB := bS HB hb; (try clear hb); (try clear ho0); (try clear ho1); (try clear ho2)) | ((with_reducible refine gate_dst (N := 4) rfl ?_); refine bE 4 #[.slice none 0 0, .slice none 0 0, .slice none 0 0] 61 ?_; intro gb448 hg w19 hbox hb; replace HO437 := Aside0.mk (Kd.S_below (by (with_reducible repeat (first | apply Kd.S_alloc | apply Kd.S_drewN | apply Kd.S_drew)); exact HO437.out) hb); replace HO440 := Aside0.mk (Kd.S_below (by (with_reducible repeat (first | apply Kd.S_alloc | apply Kd.S_drewN | apply Kd.S_drew)); exact HO440.out) hb); replace HO443 := Aside0.mk (Kd.S_below (by (with_reducible repeat (first | apply Kd.S_alloc | apply Kd.S_drewN | apply Kd.S_drew)); exact HO443.out) hb); replace HO446 := Aside0.mk (Kd.S_below (by (with_reducible repeat (first | apply Kd.S_alloc | apply Kd.S_drewN | apply Kd.S_drew)); exact HO446.out) hb); have BK448 := Aside0.mk (hbox); have GW448 := bG HB hg; replace HB := bS HB hb; obtain ⟨NB431_448, NB448_431⟩ := bN BK431 hg; replace BK431 := bB BK431 hb; clear hb hbox hg; obtain ⟨Ao20, co20, eo20⟩ := Kd.S_slice HO440.out; subst eo20; obtain ⟨hnb21, hnc21⟩ := nB NB448_431; obtain ⟨hcz22_0, hcz22_1, hcz22_2, hfz22_0, hfz22_1, hfz22_2⟩ := bK3 (w := w19) BK448; obtain ⟨Ao23, co23, eo23⟩ := Kd.S_slice HO443.out; subst eo23; obtain ⟨Ao24, co24, eo24⟩ := Kd.S_slice HO446.out; subst eo24; obtain ⟨hcz25_0, hcz25_1, hcz25_2, hfz25_0, hfz25_1, hfz25_2⟩ := bK3 (w := w19) BK431) | (refine gC (some 26) Try.func56 #[.agg #[.int .i64 a0_0, .int .i64 a0_1, .slice A0_2 l0_2.length c0_2]] ?_; (with_reducible refine (laws_toSystem.calls k a0_0 a0_1 _ _ l0_2 t449 t450 t451 _ ?side1 ?side2 A9.out).mono ?_); (case side1 => exact Kd.C_below HR0_2.out (bZ HB)); (case side2 => exact HC0_2.out); rintro e w26 ⟨v452, rfl, ho0, hb⟩; refine ⟨_, rfl, ?_⟩; obtain ⟨F1_, qHO440_, qHO443_, qHO446_, qHO453_⟩ := mark1 (by (with_reducible repeat (first | apply Kd.S_alloc | apply Kd.S_drewN | apply Kd.S_drew)); exact (Kd.S_mono (Kd.S_far (p := ⟨gb448, 2, none⟩) (Kd.S_far (p := ⟨gb448, 1, none⟩) (Kd.S_far (p := ⟨gb448, 0, none⟩) (Kd.S_types HO440.out BK448.out (by decide)) (fun _ hk => hk.2) (.slice Ao20 t438.length co20)) (fun _ hk => hk.2) (.slice Ao23 t441.length co23)) (fun _ hk => hk.2) (.slice Ao24 t444.length co24)) (fun _ h_ => h_.1))) (by (with_reducible repeat (first | apply Kd.S_alloc | apply Kd.S_drewN | apply Kd.S_drew)); exact (Kd.S_mono (Kd.S_far (p := ⟨gb448, 2, none⟩) (Kd.S_far (p := ⟨gb448, 1, none⟩) (Kd.S_far (p := ⟨gb448, 0, none⟩) (Kd.S_types HO443.out BK448.out (by decide)) (fun _ hk => hk.2) (.slice Ao20 t438.length co20)) (fun _ hk => hk.2) (.slice Ao23 t441.length co23)) (fun _ hk => hk.2) (.slice Ao24 t444.length co24)) (fun _ h_ => h_.1))) (by (with_reducible repeat (first | apply Kd.S_alloc | apply Kd.S_drewN | apply Kd.S_drew)); exact (Kd.S_mono (Kd.S_far (p := ⟨gb448, 2, none⟩) (Kd.S_far (p := ⟨gb448, 1, none⟩) (Kd.S_far (p := ⟨gb448, 0, none⟩) (Kd.S_types HO446.out BK448.out (by decide)) (fun _ hk => hk.2) (.slice Ao20 t438.length co20)) (fun _ hk => hk.2) (.slice Ao23 t441.length co23)) (fun _ hk => hk.2) (.slice Ao24 t444.length co24)) (fun _ h_ => h_.1))) ho0; replace HO440 := Aside0.mk (Kd.S_below qHO440_ hb); replace HO443 := Aside0.mk (Kd.S_below qHO443_ hb); replace HO446 := Aside0.mk (Kd.S_below qHO446_ hb); have HO453 := Aside0.mk (Kd.S_lower (Kd.S_new' qHO453_ (Kd.S_lt (by (with_reducible repeat (first | apply Kd.S_alloc | apply Kd.S_drewN | apply Kd.S_drew)); exact (Kd.S_mono (Kd.S_far (p := ⟨gb448, 2, none⟩) (Kd.S_far (p := ⟨gb448, 1, none⟩) (Kd.S_far (p := ⟨gb448, 0, none⟩) (Kd.S_types HO437.out BK448.out (by decide)) (fun _ hk => hk.2) (.slice Ao20 t438.length co20)) (fun _ hk => hk.2) (.slice Ao23 t441.length co23)) (fun _ hk => hk.2) (.slice Ao24 t444.length co24)) (fun _ h_ => h_.1))))) (below_size (bZ HB))); replace HO437 := Aside0.mk (Kd.S_elder' (by (with_reducible repeat (first | apply Kd.S_alloc | apply Kd.S_drewN | apply Kd.S_drew)); exact (Kd.S_mono (Kd.S_far (p := ⟨gb448, 2, none⟩) (Kd.S_far (p := ⟨gb448, 1, none⟩) (Kd.S_far (p := ⟨gb448, 0, none⟩) (Kd.S_types HO437.out BK448.out (by decide)) (fun _ hk => hk.2) (.slice Ao20 t438.length co20)) (fun _ hk => hk.2) (.slice Ao23 t441.length co23)) (fun _ hk => hk.2) (.slice Ao24 t444.length co24)) (fun _ h_ => h_.1))) (Kd.S_base ho0) hb); replace BK431 := bB BK431 hb; replace BK448 := bV 61 #[.slice Ao20 t438.length co20, .slice Ao23 t441.length co23, .slice Ao24 t444.length co24] BK448 hb; replace HB := bS HB hb; (try clear hb); (try clear ho0); clear qHO440_ qHO443_ qHO446_ qHO453_) | ((with_reducible refine gate_dst (N := 6) rfl ?_); refine bE 6 #[.int .i64 0, .int .i64 0, .slice none 0 0] 32 ?_; intro gb454 hg w27 hbox hb; replace HO437 := Aside0.mk (Kd.S_below (by (with_reducible repeat (first | apply Kd.S_alloc | apply Kd.S_drewN | apply Kd.S_drew)); exact HO437.out) hb); replace HO440 := Aside0.mk (Kd.S_below (by (with_reducible repeat (first | apply Kd.S_alloc | apply Kd.S_drewN | apply Kd.S_drew)); exact HO440.out) hb); replace HO443 := Aside0.mk (Kd.S_below (by (with_reducible repeat (first | apply Kd.S_alloc | apply Kd.S_drewN | apply Kd.S_drew)); exact HO443.out) hb); replace HO446 := Aside0.mk (Kd.S_below (by (with_reducible repeat (first | apply Kd.S_alloc | apply Kd.S_drewN | apply Kd.S_drew)); exact HO446.out) hb); replace HO453 := Aside0.mk (Kd.S_below (by (with_reducible repeat (first | apply Kd.S_alloc | apply Kd.S_drewN | apply Kd.S_drew)); exact HO453.out) hb); have BK454 := Aside0.mk (hbox); have GW454 := bG HB hg; replace HB := bS HB hb; obtain ⟨NB431_454, NB454_431⟩ := bN BK431 hg; replace BK431 := bB BK431 hb; obtain ⟨NB448_454, NB454_448⟩ := bN BK448 hg; replace BK448 := bB BK448 hb; clear hb hbox hg; obtain ⟨hnb28, hnc28⟩ := nB NB454_431; obtain ⟨hnb29, hnc29⟩ := nB NB454_448; obtain ⟨hcz30_0, hcz30_1, hcz30_2, hfz30_0, hfz30_1, hfz30_2⟩ := bK3 (w := w27) BK454; obtain ⟨Ao31, co31, eo31⟩ := Kd.S_slice HO453.out; subst eo31) | (refine gC (some 29) Try.func57 #[.agg #[.int .i64 t449, .int .i64 t450, .slice Ao31 t451.length co31]] ?_; (with_reducible refine (impl_QapOf.calls k t449 t450 _ _ t451 t455 t458 t461 t464 _ ?side1 ?side2 A10.out).mono ?_); (case side1 => refine (Kd.S_reads' (e := 40) (base := w.heap.size) (ok := fun k_ => (True ∧ some k_ ≠ (.slice Ao17 t435.length co17 : Value).ownBlock)) (n := t451.length) (c := co31) ?_).2.2; exact ownD (by (with_reducible repeat (first | apply Kd.S_alloc | apply Kd.S_drewN | apply Kd.S_drew)); exact (Kd.S_mono (Kd.S_far (p := ⟨gb454, 2, none⟩) (Kd.S_far (p := ⟨gb454, 1, none⟩) (Kd.S_far (p := ⟨gb454, 0, none⟩) (Kd.S_types HO453.out BK454.out (ownE (by decide))) (fun _ hk => hk.2) (.int .i64 t449)) (fun _ hk => hk.2) (.int .i64 t450)) (fun _ hk => hk.2) (.slice Ao31 t451.length co31)) (fun _ h_ => h_.1)))); (case side2 => exact (Kd.S_reads' (ownD HO453.out)).2.1); rintro e w32 ⟨F0_, v456, v459, v462, rfl, ho0, ho1, ho2, hb⟩; refine ⟨_, rfl, ?_⟩; obtain ⟨F_, qHO440_, qHO443_, qHO446_, qHO453_, r0_, r1_, r2_⟩ := mark2 (by (with_reducible repeat (first | apply Kd.S_alloc | apply Kd.S_drewN | apply Kd.S_drew)); exact (Kd.S_mono (Kd.S_far (p := ⟨gb454, 2, none⟩) (Kd.S_far (p := ⟨gb454, 1, none⟩) (Kd.S_far (p := ⟨gb454, 0, none⟩) (Kd.S_types HO440.out BK454.out (ownE (by decide))) (fun _ hk => hk.2) (.int .i64 t449)) (fun _ hk => hk.2) (.int .i64 t450)) (fun _ hk => hk.2) (.slice Ao31 t451.length co31)) (fun _ h_ => h_.1))) (by (with_reducible repeat (first | apply Kd.S_alloc | apply Kd.S_drewN | apply Kd.S_drew)); exact (Kd.S_mono (Kd.S_far (p := ⟨gb454, 2, none⟩) (Kd.S_far (p := ⟨gb454, 1, none⟩) (Kd.S_far (p := ⟨gb454, 0, none⟩) (Kd.S_types HO443.out BK454.out (ownE (by decide))) (fun _ hk => hk.2) (.int .i64 t449)) (fun _ hk => hk.2) (.int .i64 t450)) (fun _ hk => hk.2) (.slice Ao31 t451.length co31)) (fun _ h_ => h_.1))) (by (with_reducible repeat (first | apply Kd.S_alloc | apply Kd.S_drewN | apply Kd.S_drew)); exact (Kd.S_mono (Kd.S_far (p := ⟨gb454, 2, none⟩) (Kd.S_far (p := ⟨gb454, 1, none⟩) (Kd.S_far (p := ⟨gb454, 0, none⟩) (Kd.S_types HO446.out BK454.out (ownE (by decide))) (fun _ hk => hk.2) (.int .i64 t449)) (fun _ hk => hk.2) (.int .i64 t450)) (fun _ hk => hk.2) (.slice Ao31 t451.length co31)) (fun _ h_ => h_.1))) (by (with_reducible repeat (first | apply Kd.S_alloc | apply Kd.S_drewN | apply Kd.S_drew)); exact (Kd.S_mono (Kd.S_far (p := ⟨gb454, 2, none⟩) (Kd.S_far (p := ⟨gb454, 1, none⟩) (Kd.S_far (p := ⟨gb454, 0, none⟩) (Kd.S_types HO453.out BK454.out (ownE (by decide))) (fun _ hk => hk.2) (.int .i64 t449)) (fun _ hk => hk.2) (.int .i64 t450)) (fun _ hk => hk.2) (.slice Ao31 t451.length co31)) (fun _ h_ => h_.1))) ho0 ho1 ho2; clear ho0 ho1 ho2; have ho0 := r0_; have ho1 := r1_; have ho2 := r2_; clear r0_ r1_ r2_; replace HO437 := Aside0.mk (Kd.S_below (by (with_reducible repeat (first | apply Kd.S_alloc | apply Kd.S_drewN | apply Kd.S_drew)); exact (Kd.S_mono (Kd.S_far (p := ⟨gb454, 2, none⟩) (Kd.S_far (p := ⟨gb454, 1, none⟩) (Kd.S_far (p := ⟨gb454, 0, none⟩) (Kd.S_types HO437.out BK454.out (by decide)) (fun _ hk => hk.2) (.int .i64 t449)) (fun _ hk => hk.2) (.int .i64 t450)) (fun _ hk => hk.2) (.slice Ao31 t451.length co31)) (fun _ h_ => h_.1))) hb); replace HO453 := Aside0.mk (Kd.S_below qHO453_ hb); have HO457 := Aside0.mk (Kd.S_lower (Kd.S_new' (Kd.S_new' (Kd.S_new' ho0 (Kd.S_lt (by (with_reducible repeat (first | apply Kd.S_alloc | apply Kd.S_drewN | apply Kd.S_drew)); exact (Kd.S_mono (Kd.S_far (p := ⟨gb454, 2, none⟩) (Kd.S_far (p := ⟨gb454, 1, none⟩) (Kd.S_far (p := ⟨gb454, 0, none⟩) (Kd.S_types HO440.out BK454.out (ownE (by decide))) (fun _ hk => hk.2) (.int .i64 t449)) (fun _ hk => hk.2) (.int .i64 t450)) (fun _ hk => hk.2) (.slice Ao31 t451.length co31)) (fun _ h_ => h_.1))))) (Kd.S_lt (by (with_reducible repeat (first | apply Kd.S_alloc | apply Kd.S_drewN | apply Kd.S_drew)); exact (Kd.S_mono (Kd.S_far (p := ⟨gb454, 2, none⟩) (Kd.S_far (p := ⟨gb454, 1, none⟩) (Kd.S_far (p := ⟨gb454, 0, none⟩) (Kd.S_types HO443.out BK454.out (ownE (by decide))) (fun _ hk => hk.2) (.int .i64 t449)) (fun _ hk => hk.2) (.int .i64 t450)) (fun _ hk => hk.2) (.slice Ao31 t451.length co31)) (fun _ h_ => h_.1))))) (Kd.S_lt (by (with_reducible repeat (first | apply Kd.S_alloc | apply Kd.S_drewN | apply Kd.S_drew)); exact (Kd.S_mono (Kd.S_far (p := ⟨gb454, 2, none⟩) (Kd.S_far (p := ⟨gb454, 1, none⟩) (Kd.S_far (p := ⟨gb454, 0, none⟩) (Kd.S_types HO446.out BK454.out (ownE (by decide))) (fun _ hk => hk.2) (.int .i64 t449)) (fun _ hk => hk.2) (.int .i64 t450)) (fun _ hk => hk.2) (.slice Ao31 t451.length co31)) (fun _ h_ => h_.1))))) (below_size (bZ HB))); have HO460 := Aside0.mk (Kd.S_lower (Kd.S_new' (Kd.S_new' (Kd.S_new' ho1 (Kd.S_lt (by (with_reducible repeat (first | apply Kd.S_alloc | apply Kd.S_drewN | apply Kd.S_drew)); exact (Kd.S_mono (Kd.S_far (p := ⟨gb454, 2, none⟩) (Kd.S_far (p := ⟨gb454, 1, none⟩) (Kd.S_far (p := ⟨gb454, 0, none⟩) (Kd.S_types HO440.out BK454.out (ownE (by decide))) (fun _ hk => hk.2) (.int .i64 t449)) (fun _ hk => hk.2) (.int .i64 t450)) (fun _ hk => hk.2) (.slice Ao31 t451.length co31)) (fun _ h_ => h_.1))))) (Kd.S_lt (by (with_reducible repeat (first | apply Kd.S_alloc | apply Kd.S_drewN | apply Kd.S_drew)); exact (Kd.S_mono (Kd.S_far (p := ⟨gb454, 2, none⟩) (Kd.S_far (p := ⟨gb454, 1, none⟩) (Kd.S_far (p := ⟨gb454, 0, none⟩) (Kd.S_types HO443.out BK454.out (ownE (by decide))) (fun _ hk => hk.2) (.int .i64 t449)) (fun _ hk => hk.2) (.int .i64 t450)) (fun _ hk => hk.2) (.slice Ao31 t451.length co31)) (fun _ h_ => h_.1))))) (Kd.S_lt (by (with_reducible repeat (first | apply Kd.S_alloc | apply Kd.S_drewN | apply Kd.S_drew)); exact (Kd.S_mono (Kd.S_far (p := ⟨gb454, 2, none⟩) (Kd.S_far (p := ⟨gb454, 1, none⟩) (Kd.S_far (p := ⟨gb454, 0, none⟩) (Kd.S_types HO446.out BK454.out (ownE (by decide))) (fun _ hk => hk.2) (.int .i64 t449)) (fun _ hk => hk.2) (.int .i64 t450)) (fun _ hk => hk.2) (.slice Ao31 t451.length co31)) (fun _ h_ => h_.1))))) (below_size (bZ HB))); have HO463 := Aside0.mk (Kd.S_lower (Kd.S_new' (Kd.S_new' (Kd.S_new' ho2 (Kd.S_lt (by (with_reducible repeat (first | apply Kd.S_alloc | apply Kd.S_drewN | apply Kd.S_drew)); exact (Kd.S_mono (Kd.S_far (p := ⟨gb454, 2, none⟩) (Kd.S_far (p := ⟨gb454, 1, none⟩) (Kd.S_far (p := ⟨gb454, 0, none⟩) (Kd.S_types HO440.out BK454.out (ownE (by decide))) (fun _ hk => hk.2) (.int .i64 t449)) (fun _ hk => hk.2) (.int .i64 t450)) (fun _ hk => hk.2) (.slice Ao31 t451.length co31)) (fun _ h_ => h_.1))))) (Kd.S_lt (by (with_reducible repeat (first | apply Kd.S_alloc | apply Kd.S_drewN | apply Kd.S_drew)); exact (Kd.S_mono (Kd.S_far (p := ⟨gb454, 2, none⟩) (Kd.S_far (p := ⟨gb454, 1, none⟩) (Kd.S_far (p := ⟨gb454, 0, none⟩) (Kd.S_types HO443.out BK454.out (ownE (by decide))) (fun _ hk => hk.2) (.int .i64 t449)) (fun _ hk => hk.2) (.int .i64 t450)) (fun _ hk => hk.2) (.slice Ao31 t451.length co31)) (fun _ h_ => h_.1))))) (Kd.S_lt (by (with_reducible repeat (first | apply Kd.S_alloc | apply Kd.S_drewN | apply Kd.S_drew)); exact (Kd.S_mono (Kd.S_far (p := ⟨gb454, 2, none⟩) (Kd.S_far (p := ⟨gb454, 1, none⟩) (Kd.S_far (p := ⟨gb454, 0, none⟩) (Kd.S_types HO446.out BK454.out (ownE (by decide))) (fun _ hk => hk.2) (.int .i64 t449)) (fun _ hk => hk.2) (.int .i64 t450)) (fun _ hk => hk.2) (.slice Ao31 t451.length co31)) (fun _ h_ => h_.1))))) (below_size (bZ HB))); replace HO440 := Aside0.mk (Kd.S_mono (Kd.S_told (Kd.S_told (Kd.S_told (Kd.S_old qHO440_ hb) (Kd.S_base ho0)) (Kd.S_base ho1)) (Kd.S_base ho2)) (fun _ h_ => h_.1)); replace HO443 := Aside0.mk (Kd.S_mono (Kd.S_told (Kd.S_told (Kd.S_told (Kd.S_old qHO443_ hb) (Kd.S_base ho0)) (Kd.S_base ho1)) (Kd.S_base ho2)) (fun _ h_ => h_.1)); replace HO446 := Aside0.mk (Kd.S_mono (Kd.S_told (Kd.S_told (Kd.S_told (Kd.S_old qHO446_ hb) (Kd.S_base ho0)) (Kd.S_base ho1)) (Kd.S_base ho2)) (fun _ h_ => h_.1)); replace BK431 := bB BK431 hb; replace BK448 := bB BK448 hb; replace BK454 := bV 32 #[.int .i64 t449, .int .i64 t450, .slice Ao31 t451.length co31] BK454 hb; replace HB := bS HB hb; (try clear hb); (try clear ho0); clear qHO440_ qHO443_ qHO446_ qHO453_; (try clear ho1); (try clear ho2)) | ((with_reducible refine gate_dst (N := 7) rfl ?_); refine bE 7 #[.slice none 0 0, .slice none 0 0, .slice none 0 0] 61 ?_; intro gb465 hg w33 hbox hb; replace HO437 := Aside0.mk (Kd.S_below (by (with_reducible repeat (first | apply Kd.S_alloc | apply Kd.S_drewN | apply Kd.S_drew)); exact HO437.out) hb); replace HO440 := Aside0.mk (Kd.S_below (by (with_reducible repeat (first | apply Kd.S_alloc | apply Kd.S_drewN | apply Kd.S_drew)); exact HO440.out) hb); replace HO443 := Aside0.mk (Kd.S_below (by (with_reducible repeat (first | apply Kd.S_alloc | apply Kd.S_drewN | apply Kd.S_drew)); exact HO443.out) hb); replace HO446 := Aside0.mk (Kd.S_below (by (with_reducible repeat (first | apply Kd.S_alloc | apply Kd.S_drewN | apply Kd.S_drew)); exact HO446.out) hb); replace HO453 := Aside0.mk (Kd.S_below (by (with_reducible repeat (first | apply Kd.S_alloc | apply Kd.S_drewN | apply Kd.S_drew)); exact HO453.out) hb); replace HO457 := Aside0.mk (Kd.S_below (by (with_reducible repeat (first | apply Kd.S_alloc | apply Kd.S_drewN | apply Kd.S_drew)); exact HO457.out) hb); replace HO460 := Aside0.mk (Kd.S_below (by (with_reducible repeat (first | apply Kd.S_alloc | apply Kd.S_drewN | apply Kd.S_drew)); exact HO460.out) hb); replace HO463 := Aside0.mk (Kd.S_below (by (with_reducible repeat (first | apply Kd.S_alloc | apply Kd.S_drewN | apply Kd.S_drew)); exact HO463.out) hb); have BK465 := Aside0.mk (hbox); have GW465 := bG HB hg; replace HB := bS HB hb; obtain ⟨NB431_465, NB465_431⟩ := bN BK431 hg; replace BK431 := bB BK431 hb; obtain ⟨NB448_465, NB465_448⟩ := bN BK448 hg; replace BK448 := bB BK448 hb; obtain ⟨NB454_465, NB465_454⟩ := bN BK454 hg; replace BK454 := bB BK454 hb; clear hb hbox hg; obtain ⟨Ao34, co34, eo34⟩ := Kd.S_slice HO457.out; subst eo34; obtain ⟨hnb35, hnc35⟩ := nB NB465_431; obtain ⟨hnb36, hnc36⟩ := nB NB465_448; obtain ⟨hnb37, hnc37⟩ := nB NB465_454; obtain ⟨hcz38_0, hcz38_1, hcz38_2, hfz38_0, hfz38_1, hfz38_2⟩ := bK3 (w := w33) BK465; obtain ⟨Ao39, co39, eo39⟩ := Kd.S_slice HO460.out; subst eo39; obtain ⟨Ao40, co40, eo40⟩ := Kd.S_slice HO463.out; subst eo40))
  (try simp only [Act.put, List.setIfInBounds_toArray, List.set_cons_zero, List.set_cons_succ])
  go_cut [40] (fun v40 wc => ∃ (kq : Nat) (x40_10 : Bool), v40 = .bool x40_10 ∧ Aside0 (laws_FnExactQapOf.j0 kq t447 t464 x40_10 a0_0 a0_1 l0_2 t438 t441 t444 t449 t450 t451 t455 t458 t461 = some r) ∧ Aside0 (kq ≤ k) ∧ Aside0 (Kd.S (own F_ 9 (Kd.slice 3 (Kd.int .i64))) 22 wc w.heap.size (fun k_ => some k_ ≠ ((.slice Ao23 t441.length co23) : Value).ownBlock ∧ some k_ ≠ ((.slice Ao24 t444.length co24) : Value).ownBlock ∧ some k_ ≠ ((.slice Ao34 t455.length co34) : Value).ownBlock ∧ some k_ ≠ ((.slice Ao39 t458.length co39) : Value).ownBlock ∧ some k_ ≠ ((.slice Ao40 t461.length co40) : Value).ownBlock) (.slice Ao20 t438.length co20) t438) ∧ Aside0 (Kd.S (own F_ 9 (Kd.slice 3 (Kd.int .i64))) 22 wc w.heap.size (fun k_ => some k_ ≠ ((.slice Ao20 t438.length co20) : Value).ownBlock ∧ some k_ ≠ ((.slice Ao24 t444.length co24) : Value).ownBlock ∧ some k_ ≠ ((.slice Ao34 t455.length co34) : Value).ownBlock ∧ some k_ ≠ ((.slice Ao39 t458.length co39) : Value).ownBlock ∧ some k_ ≠ ((.slice Ao40 t461.length co40) : Value).ownBlock) (.slice Ao23 t441.length co23) t441) ∧ Aside0 (Kd.S (own F_ 9 (Kd.slice 3 (Kd.int .i64))) 22 wc w.heap.size (fun k_ => some k_ ≠ ((.slice Ao20 t438.length co20) : Value).ownBlock ∧ some k_ ≠ ((.slice Ao23 t441.length co23) : Value).ownBlock ∧ some k_ ≠ ((.slice Ao34 t455.length co34) : Value).ownBlock ∧ some k_ ≠ ((.slice Ao39 t458.length co39) : Value).ownBlock ∧ some k_ ≠ ((.slice Ao40 t461.length co40) : Value).ownBlock) (.slice Ao24 t444.length co24) t444) ∧ Aside0 (Kd.S (own F_ 3 k40) 40 wc w.heap.size (fun _ => True) (.slice Ao31 t451.length co31) t451) ∧ Aside0 (Kd.S (own F_ 0 (Kd.slice 3 (Kd.int .i64))) 22 wc w.heap.size (fun k_ => some k_ ≠ ((.slice Ao20 t438.length co20) : Value).ownBlock ∧ some k_ ≠ ((.slice Ao23 t441.length co23) : Value).ownBlock ∧ some k_ ≠ ((.slice Ao24 t444.length co24) : Value).ownBlock ∧ some k_ ≠ ((.slice Ao39 t458.length co39) : Value).ownBlock ∧ some k_ ≠ ((.slice Ao40 t461.length co40) : Value).ownBlock) (.slice Ao34 t455.length co34) t455) ∧ Aside0 (Kd.S (own F_ 1 (Kd.slice 3 (Kd.int .i64))) 22 wc w.heap.size (fun k_ => some k_ ≠ ((.slice Ao20 t438.length co20) : Value).ownBlock ∧ some k_ ≠ ((.slice Ao23 t441.length co23) : Value).ownBlock ∧ some k_ ≠ ((.slice Ao24 t444.length co24) : Value).ownBlock ∧ some k_ ≠ ((.slice Ao34 t455.length co34) : Value).ownBlock ∧ some k_ ≠ ((.slice Ao40 t461.length co40) : Value).ownBlock) (.slice Ao39 t458.length co39) t458) ∧ Aside0 (Kd.S (own F_ 2 (Kd.slice 3 (Kd.int .i64))) 22 wc w.heap.size (fun k_ => some k_ ≠ ((.slice Ao20 t438.length co20) : Value).ownBlock ∧ some k_ ≠ ((.slice Ao23 t441.length co23) : Value).ownBlock ∧ some k_ ≠ ((.slice Ao24 t444.length co24) : Value).ownBlock ∧ some k_ ≠ ((.slice Ao34 t455.length co34) : Value).ownBlock ∧ some k_ ≠ ((.slice Ao39 t458.length co39) : Value).ownBlock) (.slice Ao40 t461.length co40) t461) ∧ Aside0 (wc.heap[gb431]? = some (.cells #[.int .i64 a0_0, .int .i64 a0_1, (.slice A0_2 l0_2.length c0_2)] 58 (0, 0))) ∧ Aside0 (wc.heap[gb448]? = some (.cells #[(.slice Ao20 t438.length co20), (.slice Ao23 t441.length co23), (.slice Ao24 t444.length co24)] 61 (0, 0))) ∧ Aside0 (wc.heap[gb454]? = some (.cells #[.int .i64 t449, .int .i64 t450, (.slice Ao31 t451.length co31)] 32 (0, 0))) ∧ Aside0 (wc.heap[gb465]? = some (.cells #[(.slice Ao34 t455.length co34), (.slice Ao39 t458.length co39), (.slice Ao40 t461.length co40)] 61 (0, 0))) ∧ Aside0 (Below w.heap.size w wc))
  case first =>
   have H := HC11.out
   clear HC11
   replace H := Option.bind_eq_some_iff.mp H
   obtain ⟨t466, A410, H⟩ := H
   have A41 := Aside0.mk A410
   clear A410
   by_cases c42 : t466 = true
   ·subst c42
    rw [if_pos rfl] at H
    have H' := Aside0.mk H
    clear H
    obtain ⟨hnb43, hnc43⟩ := nB NB465_431
    obtain ⟨hnb44, hnc44⟩ := nB NB465_448
    obtain ⟨hnb45, hnc45⟩ := nB NB465_454
    obtain ⟨hcz46_0, hcz46_1, hcz46_2, hfz46_0, hfz46_1, hfz46_2⟩ := bK3 (w := w33) BK465
    obtain ⟨hnb47, hnc47⟩ := nB NB448_431
    obtain ⟨hnb48, hnc48⟩ := nB NB448_454
    obtain ⟨hcz49_0, hcz49_1, hcz49_2, hfz49_0, hfz49_1, hfz49_2⟩ := bK3 (w := w33) BK448
    go_wp2_with (first | (refine gC (some 34) Try.func58 #[.agg #[.slice Ao34 t455.length co34, .slice Ao39 t458.length co39, .slice Ao40 t461.length co40], .agg #[.slice Ao20 t438.length co20, .slice Ao23 t441.length co23, .slice Ao24 t444.length co24]] ?_; (with_reducible refine (laws_eqQap.calls k _ _ t455 _ _ t458 _ _ t461 _ _ t438 _ _ t441 _ _ t444 true _ ?side1 ?side2 ?side3 ?side4 ?side5 ?side6 ?side7 ?side8 ?side9 ?side10 ?side11 ?side12 A41.out).mono ?_); (case side1 => refine (Kd.S_reads' (e := 22) (base := w.heap.size) (ok := fun k_ => ((((some k_ ≠ (.slice Ao39 t458.length co39 : Value).ownBlock ∧ some k_ ≠ (.slice Ao40 t461.length co40 : Value).ownBlock) ∧ some k_ ≠ (.slice Ao20 t438.length co20 : Value).ownBlock) ∧ some k_ ≠ (.slice Ao23 t441.length co23 : Value).ownBlock) ∧ some k_ ≠ (.slice Ao24 t444.length co24 : Value).ownBlock)) (n := t455.length) (c := co34) ?_).2.2; exact ownD (by (with_reducible repeat (first | apply Kd.S_alloc | apply Kd.S_drewN | apply Kd.S_drew)); exact (Kd.S_mono (Kd.S_far (p := ⟨gb465, 2, none⟩) (Kd.S_far (p := ⟨gb465, 1, none⟩) (Kd.S_far (p := ⟨gb465, 0, none⟩) (Kd.S_types HO457.out BK465.out (ownE (by decide))) (fun _ hk => hk.2) (.slice Ao34 t455.length co34)) (fun _ hk => hk.2) (.slice Ao39 t458.length co39)) (fun _ hk => hk.2) (.slice Ao40 t461.length co40)) (fun _ h_ => h_.1)))); (case side2 => exact (Kd.S_reads' (ownD HO457.out)).2.1); (case side3 => refine (Kd.S_reads' (e := 22) (base := w.heap.size) (ok := fun k_ => ((((some k_ ≠ (.slice Ao34 t455.length co34 : Value).ownBlock ∧ some k_ ≠ (.slice Ao40 t461.length co40 : Value).ownBlock) ∧ some k_ ≠ (.slice Ao20 t438.length co20 : Value).ownBlock) ∧ some k_ ≠ (.slice Ao23 t441.length co23 : Value).ownBlock) ∧ some k_ ≠ (.slice Ao24 t444.length co24 : Value).ownBlock)) (n := t458.length) (c := co39) ?_).2.2; exact ownD (by (with_reducible repeat (first | apply Kd.S_alloc | apply Kd.S_drewN | apply Kd.S_drew)); exact (Kd.S_mono (Kd.S_far (p := ⟨gb465, 2, none⟩) (Kd.S_far (p := ⟨gb465, 1, none⟩) (Kd.S_far (p := ⟨gb465, 0, none⟩) (Kd.S_types HO460.out BK465.out (ownE (by decide))) (fun _ hk => hk.2) (.slice Ao34 t455.length co34)) (fun _ hk => hk.2) (.slice Ao39 t458.length co39)) (fun _ hk => hk.2) (.slice Ao40 t461.length co40)) (fun _ h_ => h_.1)))); (case side4 => exact (Kd.S_reads' (ownD HO460.out)).2.1); (case side5 => refine (Kd.S_reads' (e := 22) (base := w.heap.size) (ok := fun k_ => ((((some k_ ≠ (.slice Ao34 t455.length co34 : Value).ownBlock ∧ some k_ ≠ (.slice Ao39 t458.length co39 : Value).ownBlock) ∧ some k_ ≠ (.slice Ao20 t438.length co20 : Value).ownBlock) ∧ some k_ ≠ (.slice Ao23 t441.length co23 : Value).ownBlock) ∧ some k_ ≠ (.slice Ao24 t444.length co24 : Value).ownBlock)) (n := t461.length) (c := co40) ?_).2.2; exact ownD (by (with_reducible repeat (first | apply Kd.S_alloc | apply Kd.S_drewN | apply Kd.S_drew)); exact (Kd.S_mono (Kd.S_far (p := ⟨gb465, 2, none⟩) (Kd.S_far (p := ⟨gb465, 1, none⟩) (Kd.S_far (p := ⟨gb465, 0, none⟩) (Kd.S_types HO463.out BK465.out (ownE (by decide))) (fun _ hk => hk.2) (.slice Ao34 t455.length co34)) (fun _ hk => hk.2) (.slice Ao39 t458.length co39)) (fun _ hk => hk.2) (.slice Ao40 t461.length co40)) (fun _ h_ => h_.1)))); (case side6 => exact (Kd.S_reads' (ownD HO463.out)).2.1); (case side7 => refine (Kd.S_reads' (e := 22) (base := w.heap.size) (ok := fun k_ => ((((some k_ ≠ (.slice Ao23 t441.length co23 : Value).ownBlock ∧ some k_ ≠ (.slice Ao24 t444.length co24 : Value).ownBlock) ∧ some k_ ≠ (.slice Ao34 t455.length co34 : Value).ownBlock) ∧ some k_ ≠ (.slice Ao39 t458.length co39 : Value).ownBlock) ∧ some k_ ≠ (.slice Ao40 t461.length co40 : Value).ownBlock)) (n := t438.length) (c := co20) ?_).2.2; exact ownD (by (with_reducible repeat (first | apply Kd.S_alloc | apply Kd.S_drewN | apply Kd.S_drew)); exact (Kd.S_mono (Kd.S_far (p := ⟨gb465, 2, none⟩) (Kd.S_far (p := ⟨gb465, 1, none⟩) (Kd.S_far (p := ⟨gb465, 0, none⟩) (Kd.S_types HO440.out BK465.out (ownE (by decide))) (fun _ hk => hk.2) (.slice Ao34 t455.length co34)) (fun _ hk => hk.2) (.slice Ao39 t458.length co39)) (fun _ hk => hk.2) (.slice Ao40 t461.length co40)) (fun _ h_ => h_.1)))); (case side8 => exact (Kd.S_reads' (ownD HO440.out)).2.1); (case side9 => refine (Kd.S_reads' (e := 22) (base := w.heap.size) (ok := fun k_ => ((((some k_ ≠ (.slice Ao20 t438.length co20 : Value).ownBlock ∧ some k_ ≠ (.slice Ao24 t444.length co24 : Value).ownBlock) ∧ some k_ ≠ (.slice Ao34 t455.length co34 : Value).ownBlock) ∧ some k_ ≠ (.slice Ao39 t458.length co39 : Value).ownBlock) ∧ some k_ ≠ (.slice Ao40 t461.length co40 : Value).ownBlock)) (n := t441.length) (c := co23) ?_).2.2; exact ownD (by (with_reducible repeat (first | apply Kd.S_alloc | apply Kd.S_drewN | apply Kd.S_drew)); exact (Kd.S_mono (Kd.S_far (p := ⟨gb465, 2, none⟩) (Kd.S_far (p := ⟨gb465, 1, none⟩) (Kd.S_far (p := ⟨gb465, 0, none⟩) (Kd.S_types HO443.out BK465.out (ownE (by decide))) (fun _ hk => hk.2) (.slice Ao34 t455.length co34)) (fun _ hk => hk.2) (.slice Ao39 t458.length co39)) (fun _ hk => hk.2) (.slice Ao40 t461.length co40)) (fun _ h_ => h_.1)))); (case side10 => exact (Kd.S_reads' (ownD HO443.out)).2.1); (case side11 => refine (Kd.S_reads' (e := 22) (base := w.heap.size) (ok := fun k_ => ((((some k_ ≠ (.slice Ao20 t438.length co20 : Value).ownBlock ∧ some k_ ≠ (.slice Ao23 t441.length co23 : Value).ownBlock) ∧ some k_ ≠ (.slice Ao34 t455.length co34 : Value).ownBlock) ∧ some k_ ≠ (.slice Ao39 t458.length co39 : Value).ownBlock) ∧ some k_ ≠ (.slice Ao40 t461.length co40 : Value).ownBlock)) (n := t444.length) (c := co24) ?_).2.2; exact ownD (by (with_reducible repeat (first | apply Kd.S_alloc | apply Kd.S_drewN | apply Kd.S_drew)); exact (Kd.S_mono (Kd.S_far (p := ⟨gb465, 2, none⟩) (Kd.S_far (p := ⟨gb465, 1, none⟩) (Kd.S_far (p := ⟨gb465, 0, none⟩) (Kd.S_types HO446.out BK465.out (ownE (by decide))) (fun _ hk => hk.2) (.slice Ao34 t455.length co34)) (fun _ hk => hk.2) (.slice Ao39 t458.length co39)) (fun _ hk => hk.2) (.slice Ao40 t461.length co40)) (fun _ h_ => h_.1)))); (case side12 => exact (Kd.S_reads' (ownD HO446.out)).2.1); rintro e w50 ⟨rfl, hb⟩; refine ⟨_, rfl, ?_⟩; replace HO437 := Aside0.mk (Kd.S_below (by (with_reducible repeat (first | apply Kd.S_alloc | apply Kd.S_drewN | apply Kd.S_drew)); exact (Kd.S_mono (Kd.S_far (p := ⟨gb465, 2, none⟩) (Kd.S_far (p := ⟨gb465, 1, none⟩) (Kd.S_far (p := ⟨gb465, 0, none⟩) (Kd.S_types HO437.out BK465.out (by decide)) (fun _ hk => hk.2) (.slice Ao34 t455.length co34)) (fun _ hk => hk.2) (.slice Ao39 t458.length co39)) (fun _ hk => hk.2) (.slice Ao40 t461.length co40)) (fun _ h_ => h_.1))) hb); replace HO440 := Aside0.mk (Kd.S_below (by (with_reducible repeat (first | apply Kd.S_alloc | apply Kd.S_drewN | apply Kd.S_drew)); exact (Kd.S_mono (Kd.S_far (p := ⟨gb465, 2, none⟩) (Kd.S_far (p := ⟨gb465, 1, none⟩) (Kd.S_far (p := ⟨gb465, 0, none⟩) (Kd.S_types HO440.out BK465.out (ownE (by decide))) (fun _ hk => hk.2) (.slice Ao34 t455.length co34)) (fun _ hk => hk.2) (.slice Ao39 t458.length co39)) (fun _ hk => hk.2) (.slice Ao40 t461.length co40)) (fun _ h_ => h_.1))) hb); replace HO443 := Aside0.mk (Kd.S_below (by (with_reducible repeat (first | apply Kd.S_alloc | apply Kd.S_drewN | apply Kd.S_drew)); exact (Kd.S_mono (Kd.S_far (p := ⟨gb465, 2, none⟩) (Kd.S_far (p := ⟨gb465, 1, none⟩) (Kd.S_far (p := ⟨gb465, 0, none⟩) (Kd.S_types HO443.out BK465.out (ownE (by decide))) (fun _ hk => hk.2) (.slice Ao34 t455.length co34)) (fun _ hk => hk.2) (.slice Ao39 t458.length co39)) (fun _ hk => hk.2) (.slice Ao40 t461.length co40)) (fun _ h_ => h_.1))) hb); replace HO446 := Aside0.mk (Kd.S_below (by (with_reducible repeat (first | apply Kd.S_alloc | apply Kd.S_drewN | apply Kd.S_drew)); exact (Kd.S_mono (Kd.S_far (p := ⟨gb465, 2, none⟩) (Kd.S_far (p := ⟨gb465, 1, none⟩) (Kd.S_far (p := ⟨gb465, 0, none⟩) (Kd.S_types HO446.out BK465.out (ownE (by decide))) (fun _ hk => hk.2) (.slice Ao34 t455.length co34)) (fun _ hk => hk.2) (.slice Ao39 t458.length co39)) (fun _ hk => hk.2) (.slice Ao40 t461.length co40)) (fun _ h_ => h_.1))) hb); replace HO453 := Aside0.mk (Kd.S_below (by (with_reducible repeat (first | apply Kd.S_alloc | apply Kd.S_drewN | apply Kd.S_drew)); exact (Kd.S_mono (Kd.S_far (p := ⟨gb465, 2, none⟩) (Kd.S_far (p := ⟨gb465, 1, none⟩) (Kd.S_far (p := ⟨gb465, 0, none⟩) (Kd.S_types HO453.out BK465.out (ownE (by decide))) (fun _ hk => hk.2) (.slice Ao34 t455.length co34)) (fun _ hk => hk.2) (.slice Ao39 t458.length co39)) (fun _ hk => hk.2) (.slice Ao40 t461.length co40)) (fun _ h_ => h_.1))) hb); replace HO457 := Aside0.mk (Kd.S_below (by (with_reducible repeat (first | apply Kd.S_alloc | apply Kd.S_drewN | apply Kd.S_drew)); exact (Kd.S_mono (Kd.S_far (p := ⟨gb465, 2, none⟩) (Kd.S_far (p := ⟨gb465, 1, none⟩) (Kd.S_far (p := ⟨gb465, 0, none⟩) (Kd.S_types HO457.out BK465.out (ownE (by decide))) (fun _ hk => hk.2) (.slice Ao34 t455.length co34)) (fun _ hk => hk.2) (.slice Ao39 t458.length co39)) (fun _ hk => hk.2) (.slice Ao40 t461.length co40)) (fun _ h_ => h_.1))) hb); replace HO460 := Aside0.mk (Kd.S_below (by (with_reducible repeat (first | apply Kd.S_alloc | apply Kd.S_drewN | apply Kd.S_drew)); exact (Kd.S_mono (Kd.S_far (p := ⟨gb465, 2, none⟩) (Kd.S_far (p := ⟨gb465, 1, none⟩) (Kd.S_far (p := ⟨gb465, 0, none⟩) (Kd.S_types HO460.out BK465.out (ownE (by decide))) (fun _ hk => hk.2) (.slice Ao34 t455.length co34)) (fun _ hk => hk.2) (.slice Ao39 t458.length co39)) (fun _ hk => hk.2) (.slice Ao40 t461.length co40)) (fun _ h_ => h_.1))) hb); replace HO463 := Aside0.mk (Kd.S_below (by (with_reducible repeat (first | apply Kd.S_alloc | apply Kd.S_drewN | apply Kd.S_drew)); exact (Kd.S_mono (Kd.S_far (p := ⟨gb465, 2, none⟩) (Kd.S_far (p := ⟨gb465, 1, none⟩) (Kd.S_far (p := ⟨gb465, 0, none⟩) (Kd.S_types HO463.out BK465.out (ownE (by decide))) (fun _ hk => hk.2) (.slice Ao34 t455.length co34)) (fun _ hk => hk.2) (.slice Ao39 t458.length co39)) (fun _ hk => hk.2) (.slice Ao40 t461.length co40)) (fun _ h_ => h_.1))) hb); replace BK431 := bB BK431 hb; replace BK448 := bB BK448 hb; replace BK454 := bB BK454 hb; replace BK465 := bV 61 #[.slice Ao34 t455.length co34, .slice Ao39 t458.length co39, .slice Ao40 t461.length co40] BK465 hb; replace HB := bS HB hb; (try clear hb)))
    go_meet
    case rel => exact ⟨_, ((t464 != t447)), rS, H', ⟨by first | omega | exact Nat.le_refl _⟩, ⟨by (with_reducible repeat (first | apply Kd.S_alloc | apply Kd.S_drewN | apply Kd.S_drew)); exact Kd.S_mono HO440.out (fun _ hk => ⟨hk.1.1.1.1, ⟨hk.1.1.1.2, ⟨hk.1.1.2, ⟨hk.1.2, hk.2⟩⟩⟩⟩)⟩, ⟨by (with_reducible repeat (first | apply Kd.S_alloc | apply Kd.S_drewN | apply Kd.S_drew)); exact Kd.S_mono HO443.out (fun _ hk => ⟨hk.1.1.1.1, ⟨hk.1.1.1.2, ⟨hk.1.1.2, ⟨hk.1.2, hk.2⟩⟩⟩⟩)⟩, ⟨by (with_reducible repeat (first | apply Kd.S_alloc | apply Kd.S_drewN | apply Kd.S_drew)); exact Kd.S_mono HO446.out (fun _ hk => ⟨hk.1.1.1.1, ⟨hk.1.1.1.2, ⟨hk.1.1.2, ⟨hk.1.2, hk.2⟩⟩⟩⟩)⟩, ⟨by (with_reducible repeat (first | apply Kd.S_alloc | apply Kd.S_drewN | apply Kd.S_drew)); exact Kd.S_mono HO453.out (fun _ hk => trivial)⟩, ⟨by (with_reducible repeat (first | apply Kd.S_alloc | apply Kd.S_drewN | apply Kd.S_drew)); exact Kd.S_mono HO457.out (fun _ hk => ⟨hk.1.1.2, ⟨hk.1.2, ⟨hk.2, ⟨hk.1.1.1.1, hk.1.1.1.2⟩⟩⟩⟩)⟩, ⟨by (with_reducible repeat (first | apply Kd.S_alloc | apply Kd.S_drewN | apply Kd.S_drew)); exact Kd.S_mono HO460.out (fun _ hk => ⟨hk.1.1.2, ⟨hk.1.2, ⟨hk.2, ⟨hk.1.1.1.1, hk.1.1.1.2⟩⟩⟩⟩)⟩, ⟨by (with_reducible repeat (first | apply Kd.S_alloc | apply Kd.S_drewN | apply Kd.S_drew)); exact Kd.S_mono HO463.out (fun _ hk => ⟨hk.1.1.2, ⟨hk.1.2, ⟨hk.2, ⟨hk.1.1.1.1, hk.1.1.1.2⟩⟩⟩⟩)⟩, ⟨bP BK431⟩, ⟨bP BK448⟩, ⟨bP BK454⟩, ⟨bP BK465⟩, ⟨bZ HB⟩⟩
   ·replace c42 := Bool.eq_false_iff.mpr c42
    subst c42
    rw [if_neg (show ¬ (false = true) by decide)] at H
    have H' := Aside0.mk H
    clear H
    obtain ⟨hnb51, hnc51⟩ := nB NB465_431
    obtain ⟨hnb52, hnc52⟩ := nB NB465_448
    obtain ⟨hnb53, hnc53⟩ := nB NB465_454
    obtain ⟨hcz54_0, hcz54_1, hcz54_2, hfz54_0, hfz54_1, hfz54_2⟩ := bK3 (w := w33) BK465
    obtain ⟨hnb55, hnc55⟩ := nB NB448_431
    obtain ⟨hnb56, hnc56⟩ := nB NB448_454
    obtain ⟨hcz57_0, hcz57_1, hcz57_2, hfz57_0, hfz57_1, hfz57_2⟩ := bK3 (w := w33) BK448
    go_wp2_with (first | (refine gC (some 34) Try.func58 #[.agg #[.slice Ao34 t455.length co34, .slice Ao39 t458.length co39, .slice Ao40 t461.length co40], .agg #[.slice Ao20 t438.length co20, .slice Ao23 t441.length co23, .slice Ao24 t444.length co24]] ?_; (with_reducible refine (laws_eqQap.calls k _ _ t455 _ _ t458 _ _ t461 _ _ t438 _ _ t441 _ _ t444 false _ ?side1 ?side2 ?side3 ?side4 ?side5 ?side6 ?side7 ?side8 ?side9 ?side10 ?side11 ?side12 A41.out).mono ?_); (case side1 => refine (Kd.S_reads' (e := 22) (base := w.heap.size) (ok := fun k_ => ((((some k_ ≠ (.slice Ao39 t458.length co39 : Value).ownBlock ∧ some k_ ≠ (.slice Ao40 t461.length co40 : Value).ownBlock) ∧ some k_ ≠ (.slice Ao20 t438.length co20 : Value).ownBlock) ∧ some k_ ≠ (.slice Ao23 t441.length co23 : Value).ownBlock) ∧ some k_ ≠ (.slice Ao24 t444.length co24 : Value).ownBlock)) (n := t455.length) (c := co34) ?_).2.2; exact ownD (by (with_reducible repeat (first | apply Kd.S_alloc | apply Kd.S_drewN | apply Kd.S_drew)); exact (Kd.S_mono (Kd.S_far (p := ⟨gb465, 2, none⟩) (Kd.S_far (p := ⟨gb465, 1, none⟩) (Kd.S_far (p := ⟨gb465, 0, none⟩) (Kd.S_types HO457.out BK465.out (ownE (by decide))) (fun _ hk => hk.2) (.slice Ao34 t455.length co34)) (fun _ hk => hk.2) (.slice Ao39 t458.length co39)) (fun _ hk => hk.2) (.slice Ao40 t461.length co40)) (fun _ h_ => h_.1)))); (case side2 => exact (Kd.S_reads' (ownD HO457.out)).2.1); (case side3 => refine (Kd.S_reads' (e := 22) (base := w.heap.size) (ok := fun k_ => ((((some k_ ≠ (.slice Ao34 t455.length co34 : Value).ownBlock ∧ some k_ ≠ (.slice Ao40 t461.length co40 : Value).ownBlock) ∧ some k_ ≠ (.slice Ao20 t438.length co20 : Value).ownBlock) ∧ some k_ ≠ (.slice Ao23 t441.length co23 : Value).ownBlock) ∧ some k_ ≠ (.slice Ao24 t444.length co24 : Value).ownBlock)) (n := t458.length) (c := co39) ?_).2.2; exact ownD (by (with_reducible repeat (first | apply Kd.S_alloc | apply Kd.S_drewN | apply Kd.S_drew)); exact (Kd.S_mono (Kd.S_far (p := ⟨gb465, 2, none⟩) (Kd.S_far (p := ⟨gb465, 1, none⟩) (Kd.S_far (p := ⟨gb465, 0, none⟩) (Kd.S_types HO460.out BK465.out (ownE (by decide))) (fun _ hk => hk.2) (.slice Ao34 t455.length co34)) (fun _ hk => hk.2) (.slice Ao39 t458.length co39)) (fun _ hk => hk.2) (.slice Ao40 t461.length co40)) (fun _ h_ => h_.1)))); (case side4 => exact (Kd.S_reads' (ownD HO460.out)).2.1); (case side5 => refine (Kd.S_reads' (e := 22) (base := w.heap.size) (ok := fun k_ => ((((some k_ ≠ (.slice Ao34 t455.length co34 : Value).ownBlock ∧ some k_ ≠ (.slice Ao39 t458.length co39 : Value).ownBlock) ∧ some k_ ≠ (.slice Ao20 t438.length co20 : Value).ownBlock) ∧ some k_ ≠ (.slice Ao23 t441.length co23 : Value).ownBlock) ∧ some k_ ≠ (.slice Ao24 t444.length co24 : Value).ownBlock)) (n := t461.length) (c := co40) ?_).2.2; exact ownD (by (with_reducible repeat (first | apply Kd.S_alloc | apply Kd.S_drewN | apply Kd.S_drew)); exact (Kd.S_mono (Kd.S_far (p := ⟨gb465, 2, none⟩) (Kd.S_far (p := ⟨gb465, 1, none⟩) (Kd.S_far (p := ⟨gb465, 0, none⟩) (Kd.S_types HO463.out BK465.out (ownE (by decide))) (fun _ hk => hk.2) (.slice Ao34 t455.length co34)) (fun _ hk => hk.2) (.slice Ao39 t458.length co39)) (fun _ hk => hk.2) (.slice Ao40 t461.length co40)) (fun _ h_ => h_.1)))); (case side6 => exact (Kd.S_reads' (ownD HO463.out)).2.1); (case side7 => refine (Kd.S_reads' (e := 22) (base := w.heap.size) (ok := fun k_ => ((((some k_ ≠ (.slice Ao23 t441.length co23 : Value).ownBlock ∧ some k_ ≠ (.slice Ao24 t444.length co24 : Value).ownBlock) ∧ some k_ ≠ (.slice Ao34 t455.length co34 : Value).ownBlock) ∧ some k_ ≠ (.slice Ao39 t458.length co39 : Value).ownBlock) ∧ some k_ ≠ (.slice Ao40 t461.length co40 : Value).ownBlock)) (n := t438.length) (c := co20) ?_).2.2; exact ownD (by (with_reducible repeat (first | apply Kd.S_alloc | apply Kd.S_drewN | apply Kd.S_drew)); exact (Kd.S_mono (Kd.S_far (p := ⟨gb465, 2, none⟩) (Kd.S_far (p := ⟨gb465, 1, none⟩) (Kd.S_far (p := ⟨gb465, 0, none⟩) (Kd.S_types HO440.out BK465.out (ownE (by decide))) (fun _ hk => hk.2) (.slice Ao34 t455.length co34)) (fun _ hk => hk.2) (.slice Ao39 t458.length co39)) (fun _ hk => hk.2) (.slice Ao40 t461.length co40)) (fun _ h_ => h_.1)))); (case side8 => exact (Kd.S_reads' (ownD HO440.out)).2.1); (case side9 => refine (Kd.S_reads' (e := 22) (base := w.heap.size) (ok := fun k_ => ((((some k_ ≠ (.slice Ao20 t438.length co20 : Value).ownBlock ∧ some k_ ≠ (.slice Ao24 t444.length co24 : Value).ownBlock) ∧ some k_ ≠ (.slice Ao34 t455.length co34 : Value).ownBlock) ∧ some k_ ≠ (.slice Ao39 t458.length co39 : Value).ownBlock) ∧ some k_ ≠ (.slice Ao40 t461.length co40 : Value).ownBlock)) (n := t441.length) (c := co23) ?_).2.2; exact ownD (by (with_reducible repeat (first | apply Kd.S_alloc | apply Kd.S_drewN | apply Kd.S_drew)); exact (Kd.S_mono (Kd.S_far (p := ⟨gb465, 2, none⟩) (Kd.S_far (p := ⟨gb465, 1, none⟩) (Kd.S_far (p := ⟨gb465, 0, none⟩) (Kd.S_types HO443.out BK465.out (ownE (by decide))) (fun _ hk => hk.2) (.slice Ao34 t455.length co34)) (fun _ hk => hk.2) (.slice Ao39 t458.length co39)) (fun _ hk => hk.2) (.slice Ao40 t461.length co40)) (fun _ h_ => h_.1)))); (case side10 => exact (Kd.S_reads' (ownD HO443.out)).2.1); (case side11 => refine (Kd.S_reads' (e := 22) (base := w.heap.size) (ok := fun k_ => ((((some k_ ≠ (.slice Ao20 t438.length co20 : Value).ownBlock ∧ some k_ ≠ (.slice Ao23 t441.length co23 : Value).ownBlock) ∧ some k_ ≠ (.slice Ao34 t455.length co34 : Value).ownBlock) ∧ some k_ ≠ (.slice Ao39 t458.length co39 : Value).ownBlock) ∧ some k_ ≠ (.slice Ao40 t461.length co40 : Value).ownBlock)) (n := t444.length) (c := co24) ?_).2.2; exact ownD (by (with_reducible repeat (first | apply Kd.S_alloc | apply Kd.S_drewN | apply Kd.S_drew)); exact (Kd.S_mono (Kd.S_far (p := ⟨gb465, 2, none⟩) (Kd.S_far (p := ⟨gb465, 1, none⟩) (Kd.S_far (p := ⟨gb465, 0, none⟩) (Kd.S_types HO446.out BK465.out (ownE (by decide))) (fun _ hk => hk.2) (.slice Ao34 t455.length co34)) (fun _ hk => hk.2) (.slice Ao39 t458.length co39)) (fun _ hk => hk.2) (.slice Ao40 t461.length co40)) (fun _ h_ => h_.1)))); (case side12 => exact (Kd.S_reads' (ownD HO446.out)).2.1); rintro e w58 ⟨rfl, hb⟩; refine ⟨_, rfl, ?_⟩; replace HO437 := Aside0.mk (Kd.S_below (by (with_reducible repeat (first | apply Kd.S_alloc | apply Kd.S_drewN | apply Kd.S_drew)); exact (Kd.S_mono (Kd.S_far (p := ⟨gb465, 2, none⟩) (Kd.S_far (p := ⟨gb465, 1, none⟩) (Kd.S_far (p := ⟨gb465, 0, none⟩) (Kd.S_types HO437.out BK465.out (by decide)) (fun _ hk => hk.2) (.slice Ao34 t455.length co34)) (fun _ hk => hk.2) (.slice Ao39 t458.length co39)) (fun _ hk => hk.2) (.slice Ao40 t461.length co40)) (fun _ h_ => h_.1))) hb); replace HO440 := Aside0.mk (Kd.S_below (by (with_reducible repeat (first | apply Kd.S_alloc | apply Kd.S_drewN | apply Kd.S_drew)); exact (Kd.S_mono (Kd.S_far (p := ⟨gb465, 2, none⟩) (Kd.S_far (p := ⟨gb465, 1, none⟩) (Kd.S_far (p := ⟨gb465, 0, none⟩) (Kd.S_types HO440.out BK465.out (ownE (by decide))) (fun _ hk => hk.2) (.slice Ao34 t455.length co34)) (fun _ hk => hk.2) (.slice Ao39 t458.length co39)) (fun _ hk => hk.2) (.slice Ao40 t461.length co40)) (fun _ h_ => h_.1))) hb); replace HO443 := Aside0.mk (Kd.S_below (by (with_reducible repeat (first | apply Kd.S_alloc | apply Kd.S_drewN | apply Kd.S_drew)); exact (Kd.S_mono (Kd.S_far (p := ⟨gb465, 2, none⟩) (Kd.S_far (p := ⟨gb465, 1, none⟩) (Kd.S_far (p := ⟨gb465, 0, none⟩) (Kd.S_types HO443.out BK465.out (ownE (by decide))) (fun _ hk => hk.2) (.slice Ao34 t455.length co34)) (fun _ hk => hk.2) (.slice Ao39 t458.length co39)) (fun _ hk => hk.2) (.slice Ao40 t461.length co40)) (fun _ h_ => h_.1))) hb); replace HO446 := Aside0.mk (Kd.S_below (by (with_reducible repeat (first | apply Kd.S_alloc | apply Kd.S_drewN | apply Kd.S_drew)); exact (Kd.S_mono (Kd.S_far (p := ⟨gb465, 2, none⟩) (Kd.S_far (p := ⟨gb465, 1, none⟩) (Kd.S_far (p := ⟨gb465, 0, none⟩) (Kd.S_types HO446.out BK465.out (ownE (by decide))) (fun _ hk => hk.2) (.slice Ao34 t455.length co34)) (fun _ hk => hk.2) (.slice Ao39 t458.length co39)) (fun _ hk => hk.2) (.slice Ao40 t461.length co40)) (fun _ h_ => h_.1))) hb); replace HO453 := Aside0.mk (Kd.S_below (by (with_reducible repeat (first | apply Kd.S_alloc | apply Kd.S_drewN | apply Kd.S_drew)); exact (Kd.S_mono (Kd.S_far (p := ⟨gb465, 2, none⟩) (Kd.S_far (p := ⟨gb465, 1, none⟩) (Kd.S_far (p := ⟨gb465, 0, none⟩) (Kd.S_types HO453.out BK465.out (ownE (by decide))) (fun _ hk => hk.2) (.slice Ao34 t455.length co34)) (fun _ hk => hk.2) (.slice Ao39 t458.length co39)) (fun _ hk => hk.2) (.slice Ao40 t461.length co40)) (fun _ h_ => h_.1))) hb); replace HO457 := Aside0.mk (Kd.S_below (by (with_reducible repeat (first | apply Kd.S_alloc | apply Kd.S_drewN | apply Kd.S_drew)); exact (Kd.S_mono (Kd.S_far (p := ⟨gb465, 2, none⟩) (Kd.S_far (p := ⟨gb465, 1, none⟩) (Kd.S_far (p := ⟨gb465, 0, none⟩) (Kd.S_types HO457.out BK465.out (ownE (by decide))) (fun _ hk => hk.2) (.slice Ao34 t455.length co34)) (fun _ hk => hk.2) (.slice Ao39 t458.length co39)) (fun _ hk => hk.2) (.slice Ao40 t461.length co40)) (fun _ h_ => h_.1))) hb); replace HO460 := Aside0.mk (Kd.S_below (by (with_reducible repeat (first | apply Kd.S_alloc | apply Kd.S_drewN | apply Kd.S_drew)); exact (Kd.S_mono (Kd.S_far (p := ⟨gb465, 2, none⟩) (Kd.S_far (p := ⟨gb465, 1, none⟩) (Kd.S_far (p := ⟨gb465, 0, none⟩) (Kd.S_types HO460.out BK465.out (ownE (by decide))) (fun _ hk => hk.2) (.slice Ao34 t455.length co34)) (fun _ hk => hk.2) (.slice Ao39 t458.length co39)) (fun _ hk => hk.2) (.slice Ao40 t461.length co40)) (fun _ h_ => h_.1))) hb); replace HO463 := Aside0.mk (Kd.S_below (by (with_reducible repeat (first | apply Kd.S_alloc | apply Kd.S_drewN | apply Kd.S_drew)); exact (Kd.S_mono (Kd.S_far (p := ⟨gb465, 2, none⟩) (Kd.S_far (p := ⟨gb465, 1, none⟩) (Kd.S_far (p := ⟨gb465, 0, none⟩) (Kd.S_types HO463.out BK465.out (ownE (by decide))) (fun _ hk => hk.2) (.slice Ao34 t455.length co34)) (fun _ hk => hk.2) (.slice Ao39 t458.length co39)) (fun _ hk => hk.2) (.slice Ao40 t461.length co40)) (fun _ h_ => h_.1))) hb); replace BK431 := bB BK431 hb; replace BK448 := bB BK448 hb; replace BK454 := bB BK454 hb; replace BK465 := bV 61 #[.slice Ao34 t455.length co34, .slice Ao39 t458.length co39, .slice Ao40 t461.length co40] BK465 hb; replace HB := bS HB hb; (try clear hb)))
    go_meet
    case rel => exact ⟨_, (true), rS, H', ⟨by first | omega | exact Nat.le_refl _⟩, ⟨by (with_reducible repeat (first | apply Kd.S_alloc | apply Kd.S_drewN | apply Kd.S_drew)); exact Kd.S_mono HO440.out (fun _ hk => ⟨hk.1.1.1.1, ⟨hk.1.1.1.2, ⟨hk.1.1.2, ⟨hk.1.2, hk.2⟩⟩⟩⟩)⟩, ⟨by (with_reducible repeat (first | apply Kd.S_alloc | apply Kd.S_drewN | apply Kd.S_drew)); exact Kd.S_mono HO443.out (fun _ hk => ⟨hk.1.1.1.1, ⟨hk.1.1.1.2, ⟨hk.1.1.2, ⟨hk.1.2, hk.2⟩⟩⟩⟩)⟩, ⟨by (with_reducible repeat (first | apply Kd.S_alloc | apply Kd.S_drewN | apply Kd.S_drew)); exact Kd.S_mono HO446.out (fun _ hk => ⟨hk.1.1.1.1, ⟨hk.1.1.1.2, ⟨hk.1.1.2, ⟨hk.1.2, hk.2⟩⟩⟩⟩)⟩, ⟨by (with_reducible repeat (first | apply Kd.S_alloc | apply Kd.S_drewN | apply Kd.S_drew)); exact Kd.S_mono HO453.out (fun _ hk => trivial)⟩, ⟨by (with_reducible repeat (first | apply Kd.S_alloc | apply Kd.S_drewN | apply Kd.S_drew)); exact Kd.S_mono HO457.out (fun _ hk => ⟨hk.1.1.2, ⟨hk.1.2, ⟨hk.2, ⟨hk.1.1.1.1, hk.1.1.1.2⟩⟩⟩⟩)⟩, ⟨by (with_reducible repeat (first | apply Kd.S_alloc | apply Kd.S_drewN | apply Kd.S_drew)); exact Kd.S_mono HO460.out (fun _ hk => ⟨hk.1.1.2, ⟨hk.1.2, ⟨hk.2, ⟨hk.1.1.1.1, hk.1.1.1.2⟩⟩⟩⟩)⟩, ⟨by (with_reducible repeat (first | apply Kd.S_alloc | apply Kd.S_drewN | apply Kd.S_drew)); exact Kd.S_mono HO463.out (fun _ hk => ⟨hk.1.1.2, ⟨hk.1.2, ⟨hk.2, ⟨hk.1.1.1.1, hk.1.1.1.2⟩⟩⟩⟩)⟩, ⟨bP BK431⟩, ⟨bP BK448⟩, ⟨bP BK454⟩, ⟨bP BK465⟩, ⟨bZ HB⟩⟩
  case rest =>
   clear HC11
   try clear c1
   try clear c2
   try clear p2
   try clear c3
   try clear c3b0
   try clear c4
   try clear c5
   try clear c14
   try clear c21
   try clear c28
   try clear c29
   try clear c35
   try clear c36
   try clear c37
   try clear c42
   try clear c43
   try clear c44
   try clear c45
   try clear c47
   try clear c48
   try clear c51
   try clear c52
   try clear c53
   try clear c54
   try clear c55
   try clear c56
   try clear c57
   try clear c58
   try clear hcz13_0
   try clear hcz13_1
   try clear hcz13_2
   try clear hcz15_0
   try clear hcz15_1
   try clear hcz15_2
   try clear hcz22_0
   try clear hcz22_1
   try clear hcz22_2
   try clear hcz25_0
   try clear hcz25_1
   try clear hcz25_2
   try clear hcz30_0
   try clear hcz30_1
   try clear hcz30_2
   try clear hcz38_0
   try clear hcz38_1
   try clear hcz38_2
   try clear hcz46_0
   try clear hcz46_1
   try clear hcz46_2
   try clear hcz49_0
   try clear hcz49_1
   try clear hcz49_2
   try clear hcz54_0
   try clear hcz54_1
   try clear hcz54_2
   try clear hcz57_0
   try clear hcz57_1
   try clear hcz57_2
   try clear hcz5_0
   try clear hcz5_1
   try clear hcz5_2
   try clear hfz13_0
   try clear hfz13_1
   try clear hfz13_2
   try clear hfz15_0
   try clear hfz15_1
   try clear hfz15_2
   try clear hfz22_0
   try clear hfz22_1
   try clear hfz22_2
   try clear hfz25_0
   try clear hfz25_1
   try clear hfz25_2
   try clear hfz30_0
   try clear hfz30_1
   try clear hfz30_2
   try clear hfz38_0
   try clear hfz38_1
   try clear hfz38_2
   try clear hfz46_0
   try clear hfz46_1
   try clear hfz46_2
   try clear hfz49_0
   try clear hfz49_1
   try clear hfz49_2
   try clear hfz54_0
   try clear hfz54_1
   try clear hfz54_2
   try clear hfz57_0
   try clear hfz57_1
   try clear hfz57_2
   try clear hfz5_0
   try clear hfz5_1
   try clear hfz5_2
   obtain ⟨kq, x40_10, rfl, HA, HJ10, HO_449000, HO_449001, HO_449002, HO_455002, HO_466000, HO_466001, HO_466002, BK431, BK448, BK454, BK465, HB⟩ := hcut
   cases kq with
   | zero => exact absurd HA.out (by simp [laws_FnExactQapOf.j0])
   | succ kj10 =>
    have H := HA.out
    clear HA
    simp only [laws_FnExactQapOf.j0] at H
    by_cases c59 : x40_10 = true
    ·subst c59
     rw [if_pos rfl] at H
     exact absurd (Option.some.inj H) (by rw [htrue.out]; exact Bool.false_ne_true)
    ·replace c59 := Bool.eq_false_iff.mpr c59
     subst c59
     rw [if_neg (show ¬ (false = true) by decide)] at H
     replace H := Option.bind_eq_some_iff.mp H
     obtain ⟨⟨t467, t468, t469⟩, A600, H⟩ := H
     have A60 := Aside0.mk A600
     clear A600
     replace H := Option.bind_eq_some_iff.mp H
     obtain ⟨t472, A610, H⟩ := H
     have A61 := Aside0.mk A610
     clear A610
     by_cases c62 : t472 = true
     ·subst c62
      rw [if_pos rfl] at H
      replace H := Option.bind_eq_some_iff.mp H
      obtain ⟨⟨t473, y473⟩, A630, H⟩ := H
      try dsimp only at H
      have A63 := Aside0.mk A630
      clear A630
      have HC64 := Aside0.mk H
      clear H
      try go_wp2
      replace HO_449000 := Aside0.mk (Kd.S_drew HO_449000.out)
      replace HO_449001 := Aside0.mk (Kd.S_drew HO_449001.out)
      replace HO_449002 := Aside0.mk (Kd.S_drew HO_449002.out)
      replace HO_455002 := Aside0.mk (Kd.S_drew HO_455002.out)
      replace HO_466000 := Aside0.mk (Kd.S_drew HO_466000.out)
      replace HO_466001 := Aside0.mk (Kd.S_drew HO_466001.out)
      replace HO_466002 := Aside0.mk (Kd.S_drew HO_466002.out)
      replace BK431 := Aside0.mk (blk_drew BK431.out)
      replace BK448 := Aside0.mk (blk_drew BK448.out)
      replace BK454 := Aside0.mk (blk_drew BK454.out)
      replace BK465 := Aside0.mk (blk_drew BK465.out)
      replace HB := Aside0.mk (below_drew1 HB.out)
      refine start_ (n := 5) (S := fun w' => SP3 w' gb454 (.int .i64 t449) (.int .i64 t450) (.slice Ao31 t451.length co31) (SQ3 w' gb431 (.int .i64 a0_0) (.int .i64 a0_1) (.slice A0_2 l0_2.length c0_2))) (ds := []) #[false, false, false, false, false] (by kernel_rfl) rfl rfl (bS3 BK454 (bT3 BK431)) (fun hHeld => ?_)
      generalize wc.drew = w65 at HO_449000 HO_449001 HO_449002 HO_455002 HO_466000 HO_466001 HO_466002 BK431 BK448 BK454 BK465 HB hHeld ⊢
      refine tJ 0 (some 41) hHeld ?_
      refine tJ 1 (some 42) hHeld ?_
      refine one_ (i := 2) (N := some 43) #[true, true, true, false, false] rfl rfl (by kernel_rfl) (by decide) (fun K hK => ?_)
      refine gO Try.func56 #[.agg #[.int .i64 a0_0, .int .i64 a0_1, .slice A0_2 l0_2.length c0_2]] ?_
      with_reducible refine (laws_toSystem.calls kj10 a0_0 a0_1 _ _ l0_2 t467 t468 t469 _ ?side1 ?side2 A60.out).mono ?_
      (case side1 => exact cP (Kd.C_below HR0_2.out HB.out))
      (case side2 => exact HC0_2.out)
      rintro e w66 ⟨v470, rfl, ho0, hb⟩
      refine ⟨_, rfl, ?_⟩
      replace HO_449000 := Aside0.mk (Kd.S_below (by (with_reducible repeat (first | apply Kd.S_alloc | apply Kd.S_drewN | apply Kd.S_drew)); exact HO_449000.out) hb)
      replace HO_449001 := Aside0.mk (Kd.S_below (by (with_reducible repeat (first | apply Kd.S_alloc | apply Kd.S_drewN | apply Kd.S_drew)); exact HO_449001.out) hb)
      replace HO_449002 := Aside0.mk (Kd.S_below (by (with_reducible repeat (first | apply Kd.S_alloc | apply Kd.S_drewN | apply Kd.S_drew)); exact HO_449002.out) hb)
      replace HO_466000 := Aside0.mk (Kd.S_below (by (with_reducible repeat (first | apply Kd.S_alloc | apply Kd.S_drewN | apply Kd.S_drew)); exact HO_466000.out) hb)
      replace HO_466001 := Aside0.mk (Kd.S_below (by (with_reducible repeat (first | apply Kd.S_alloc | apply Kd.S_drewN | apply Kd.S_drew)); exact HO_466001.out) hb)
      replace HO_466002 := Aside0.mk (Kd.S_below (by (with_reducible repeat (first | apply Kd.S_alloc | apply Kd.S_drewN | apply Kd.S_drew)); exact HO_466002.out) hb)
      have HO471 := Aside0.mk (Kd.S_lower (Kd.S_new' ho0 (Kd.S_lt (by (with_reducible repeat (first | apply Kd.S_alloc | apply Kd.S_drewN | apply Kd.S_drew)); exact HO_455002.out))) (below_size (bZ HB)))
      replace HO_455002 := Aside0.mk (Kd.S_elder' (by (with_reducible repeat (first | apply Kd.S_alloc | apply Kd.S_drewN | apply Kd.S_drew)); exact HO_455002.out) (Kd.S_base ho0) hb)
      replace BK431 := bB BK431 hb
      replace BK448 := bB BK448 hb
      replace BK454 := bB BK454 hb
      replace BK465 := bB BK465 hb
      replace HB := bS HB hb
      (try clear hb)
      (try clear ho0)
      obtain ⟨Ao67, co67, eo67⟩ := Kd.S_slice HO471.out
      (first | subst eo67 | (injection eo67 with f1_ f2_ f3_; have f4_ := f1_.symm; have f5_ := f3_.symm; clear f1_ f2_ f3_; subst f4_; subst f5_))
      refine hK.out _ _ (bS3 BK454 (bT3 BK431)) (fun hHeld => ?_)
      clear hK K
      refine nO (some 43) ?_
      refine one_ (i := 3) (N := some 44) #[true, true, true, true, false] rfl rfl (by kernel_rfl) (by decide) (fun K hK => ?_)
      refine gO Try.func59 #[.agg #[.int .i64 t449, .int .i64 t450, .slice Ao31 t451.length co31], .agg #[.int .i64 t467, .int .i64 t468, .slice Ao67 t469.length co67]] ?_
      with_reducible refine (laws_eqSystem.calls kj10 t449 t450 _ _ t451 t467 t468 _ _ t469 true _ ?side1 ?side2 ?side3 ?side4 A61.out).mono ?_
      (case side1 => exact cP ((Kd.S_reads' (ownD HO_455002.out)).2.2))
      (case side2 => exact (Kd.S_reads' (ownD HO_455002.out)).2.1)
      (case side3 => exact cP ((Kd.S_reads' HO471.out).2.2))
      (case side4 => exact (Kd.S_reads' HO471.out).2.1)
      rintro e w68 ⟨rfl, hb⟩
      refine ⟨_, rfl, ?_⟩
      replace HO_449000 := Aside0.mk (Kd.S_below (by (with_reducible repeat (first | apply Kd.S_alloc | apply Kd.S_drewN | apply Kd.S_drew)); exact HO_449000.out) hb)
      replace HO_449001 := Aside0.mk (Kd.S_below (by (with_reducible repeat (first | apply Kd.S_alloc | apply Kd.S_drewN | apply Kd.S_drew)); exact HO_449001.out) hb)
      replace HO_449002 := Aside0.mk (Kd.S_below (by (with_reducible repeat (first | apply Kd.S_alloc | apply Kd.S_drewN | apply Kd.S_drew)); exact HO_449002.out) hb)
      replace HO_455002 := Aside0.mk (Kd.S_below (by (with_reducible repeat (first | apply Kd.S_alloc | apply Kd.S_drewN | apply Kd.S_drew)); exact HO_455002.out) hb)
      replace HO_466000 := Aside0.mk (Kd.S_below (by (with_reducible repeat (first | apply Kd.S_alloc | apply Kd.S_drewN | apply Kd.S_drew)); exact HO_466000.out) hb)
      replace HO_466001 := Aside0.mk (Kd.S_below (by (with_reducible repeat (first | apply Kd.S_alloc | apply Kd.S_drewN | apply Kd.S_drew)); exact HO_466001.out) hb)
      replace HO_466002 := Aside0.mk (Kd.S_below (by (with_reducible repeat (first | apply Kd.S_alloc | apply Kd.S_drewN | apply Kd.S_drew)); exact HO_466002.out) hb)
      replace HO471 := Aside0.mk (Kd.S_below (by (with_reducible repeat (first | apply Kd.S_alloc | apply Kd.S_drewN | apply Kd.S_drew)); exact HO471.out) hb)
      replace BK431 := bB BK431 hb
      replace BK448 := bB BK448 hb
      replace BK454 := bB BK454 hb
      replace BK465 := bB BK465 hb
      replace HB := bS HB hb
      (try clear hb)
      refine hK.out _ _ (bS3 BK454 (bT3 BK431)) (fun hHeld => ?_)
      clear hK K
      refine nO (some 44) ?_
      refine pJ 4 (some 45) ?_
      refine done_ (by kernel_rfl) ?_
      obtain ⟨hnb69, hnc69⟩ := nB NB454_431
      obtain ⟨hnb70, hnc70⟩ := nB NB454_448
      obtain ⟨hnb71, hnc71⟩ := nB NB454_465
      obtain ⟨hcz72_0, hcz72_1, hcz72_2, hfz72_0, hfz72_1, hfz72_2⟩ := bK3 (w := w68) BK454
      go_upto_region 14 with (first | (refine gC (some 48) Try.func60 #[.agg #[.int .i64 t449, .int .i64 t450, .slice Ao31 t451.length co31], .int .i64 1] ?_; (refine (laws_markSystem.callsg kj10 ?P0 t449 t450 _ t451 1 t473 y473 w _ ?side1 ?side2 A63.out).mono ?_); (case side2 => first | exact ownB HO_455002.out | exact ownB (Kd.S_drew HO_455002.out) | exact ownB (Kd.S_drewN HO_455002.out _)); (case side1 => exact (bZ HB)); rintro e w73 ⟨rfl, ho, hb, hkp⟩; refine ⟨_, rfl, ?_⟩; replace HO_449000 := Aside0.mk (ownK (by (with_reducible repeat (first | apply Kd.S_alloc | apply Kd.S_drewN | apply Kd.S_drew)); exact HO_449000.out) hkp (fun k_ e1_ e2_ => absurd (e1_.symm.trans e2_) (by decide)) (by decide) (tyNe2 HO_449000.out HO_455002.out (by decide)) (typNe (by (with_reducible repeat (first | apply Kd.S_alloc | apply Kd.S_drewN | apply Kd.S_drew)); exact HO_455002.out) (by decide))); replace HO_449001 := Aside0.mk (ownK (by (with_reducible repeat (first | apply Kd.S_alloc | apply Kd.S_drewN | apply Kd.S_drew)); exact HO_449001.out) hkp (fun k_ e1_ e2_ => absurd (e1_.symm.trans e2_) (by decide)) (by decide) (tyNe2 HO_449001.out HO_455002.out (by decide)) (typNe (by (with_reducible repeat (first | apply Kd.S_alloc | apply Kd.S_drewN | apply Kd.S_drew)); exact HO_455002.out) (by decide))); replace HO_449002 := Aside0.mk (ownK (by (with_reducible repeat (first | apply Kd.S_alloc | apply Kd.S_drewN | apply Kd.S_drew)); exact HO_449002.out) hkp (fun k_ e1_ e2_ => absurd (e1_.symm.trans e2_) (by decide)) (by decide) (tyNe2 HO_449002.out HO_455002.out (by decide)) (typNe (by (with_reducible repeat (first | apply Kd.S_alloc | apply Kd.S_drewN | apply Kd.S_drew)); exact HO_455002.out) (by decide))); replace HO_466000 := Aside0.mk (ownK (by (with_reducible repeat (first | apply Kd.S_alloc | apply Kd.S_drewN | apply Kd.S_drew)); exact HO_466000.out) hkp (fun k_ e1_ e2_ => absurd (e1_.symm.trans e2_) (by decide)) (by decide) (tyNe2 HO_466000.out HO_455002.out (by decide)) (typNe (by (with_reducible repeat (first | apply Kd.S_alloc | apply Kd.S_drewN | apply Kd.S_drew)); exact HO_455002.out) (by decide))); replace HO_466001 := Aside0.mk (ownK (by (with_reducible repeat (first | apply Kd.S_alloc | apply Kd.S_drewN | apply Kd.S_drew)); exact HO_466001.out) hkp (fun k_ e1_ e2_ => absurd (e1_.symm.trans e2_) (by decide)) (by decide) (tyNe2 HO_466001.out HO_455002.out (by decide)) (typNe (by (with_reducible repeat (first | apply Kd.S_alloc | apply Kd.S_drewN | apply Kd.S_drew)); exact HO_455002.out) (by decide))); replace HO_466002 := Aside0.mk (ownK (by (with_reducible repeat (first | apply Kd.S_alloc | apply Kd.S_drewN | apply Kd.S_drew)); exact HO_466002.out) hkp (fun k_ e1_ e2_ => absurd (e1_.symm.trans e2_) (by decide)) (by decide) (tyNe2 HO_466002.out HO_455002.out (by decide)) (typNe (by (with_reducible repeat (first | apply Kd.S_alloc | apply Kd.S_drewN | apply Kd.S_drew)); exact HO_455002.out) (by decide))); replace BK431 := Aside0.mk (blkKeep (bP BK431) hkp (by decide) (typNe1 (by (with_reducible repeat (first | apply Kd.S_alloc | apply Kd.S_drewN | apply Kd.S_drew)); exact HO_455002.out) (by decide))); replace BK448 := Aside0.mk (blkKeep (bP BK448) hkp (by decide) (typNe1 (by (with_reducible repeat (first | apply Kd.S_alloc | apply Kd.S_drewN | apply Kd.S_drew)); exact HO_455002.out) (by decide))); replace BK454 := Aside0.mk (blkKeep (bP BK454) hkp (by decide) (typNe1 (by (with_reducible repeat (first | apply Kd.S_alloc | apply Kd.S_drewN | apply Kd.S_drew)); exact HO_455002.out) (by decide))); replace BK465 := Aside0.mk (blkKeep (bP BK465) hkp (by decide) (typNe1 (by (with_reducible repeat (first | apply Kd.S_alloc | apply Kd.S_drewN | apply Kd.S_drew)); exact HO_455002.out) (by decide))); replace HO_455002 := Aside0.mk (ownBack ho); replace HB := Aside0.mk hb; clear ho hb hkp; clear HO471))
      (try simp only [Act.put, List.setIfInBounds_toArray, List.set_cons_zero, List.set_cons_succ])
      go_cut [61] (fun v61 wc => ∃ (kq : Nat) (x61_63 : Bool), v61 = .bool x61_63 ∧ Aside0 (laws_FnExactQapOf.j1 kq t447 x61_63 a0_0 a0_1 l0_2 t438 t441 t444 t455 t458 t461 = some r) ∧ Aside0 (kq ≤ kj10) ∧ Aside0 (Kd.S (own F_ 9 (Kd.slice 3 (Kd.int .i64))) 22 wc w.heap.size (fun k_ => some k_ ≠ ((.slice Ao23 t441.length co23) : Value).ownBlock ∧ some k_ ≠ ((.slice Ao24 t444.length co24) : Value).ownBlock ∧ some k_ ≠ ((.slice Ao34 t455.length co34) : Value).ownBlock ∧ some k_ ≠ ((.slice Ao39 t458.length co39) : Value).ownBlock ∧ some k_ ≠ ((.slice Ao40 t461.length co40) : Value).ownBlock) (.slice Ao20 t438.length co20) t438) ∧ Aside0 (Kd.S (own F_ 9 (Kd.slice 3 (Kd.int .i64))) 22 wc w.heap.size (fun k_ => some k_ ≠ ((.slice Ao20 t438.length co20) : Value).ownBlock ∧ some k_ ≠ ((.slice Ao24 t444.length co24) : Value).ownBlock ∧ some k_ ≠ ((.slice Ao34 t455.length co34) : Value).ownBlock ∧ some k_ ≠ ((.slice Ao39 t458.length co39) : Value).ownBlock ∧ some k_ ≠ ((.slice Ao40 t461.length co40) : Value).ownBlock) (.slice Ao23 t441.length co23) t441) ∧ Aside0 (Kd.S (own F_ 9 (Kd.slice 3 (Kd.int .i64))) 22 wc w.heap.size (fun k_ => some k_ ≠ ((.slice Ao20 t438.length co20) : Value).ownBlock ∧ some k_ ≠ ((.slice Ao23 t441.length co23) : Value).ownBlock ∧ some k_ ≠ ((.slice Ao34 t455.length co34) : Value).ownBlock ∧ some k_ ≠ ((.slice Ao39 t458.length co39) : Value).ownBlock ∧ some k_ ≠ ((.slice Ao40 t461.length co40) : Value).ownBlock) (.slice Ao24 t444.length co24) t444) ∧ Aside0 (Kd.S (own F_ 3 k40) 40 wc w.heap.size (fun _ => True) (.slice Ao31 t451.length co31) y473) ∧ Aside0 (Kd.S (own F_ 0 (Kd.slice 3 (Kd.int .i64))) 22 wc w.heap.size (fun k_ => some k_ ≠ ((.slice Ao20 t438.length co20) : Value).ownBlock ∧ some k_ ≠ ((.slice Ao23 t441.length co23) : Value).ownBlock ∧ some k_ ≠ ((.slice Ao24 t444.length co24) : Value).ownBlock ∧ some k_ ≠ ((.slice Ao39 t458.length co39) : Value).ownBlock ∧ some k_ ≠ ((.slice Ao40 t461.length co40) : Value).ownBlock) (.slice Ao34 t455.length co34) t455) ∧ Aside0 (Kd.S (own F_ 1 (Kd.slice 3 (Kd.int .i64))) 22 wc w.heap.size (fun k_ => some k_ ≠ ((.slice Ao20 t438.length co20) : Value).ownBlock ∧ some k_ ≠ ((.slice Ao23 t441.length co23) : Value).ownBlock ∧ some k_ ≠ ((.slice Ao24 t444.length co24) : Value).ownBlock ∧ some k_ ≠ ((.slice Ao34 t455.length co34) : Value).ownBlock ∧ some k_ ≠ ((.slice Ao40 t461.length co40) : Value).ownBlock) (.slice Ao39 t458.length co39) t458) ∧ Aside0 (Kd.S (own F_ 2 (Kd.slice 3 (Kd.int .i64))) 22 wc w.heap.size (fun k_ => some k_ ≠ ((.slice Ao20 t438.length co20) : Value).ownBlock ∧ some k_ ≠ ((.slice Ao23 t441.length co23) : Value).ownBlock ∧ some k_ ≠ ((.slice Ao24 t444.length co24) : Value).ownBlock ∧ some k_ ≠ ((.slice Ao34 t455.length co34) : Value).ownBlock ∧ some k_ ≠ ((.slice Ao39 t458.length co39) : Value).ownBlock) (.slice Ao40 t461.length co40) t461) ∧ Aside0 (wc.heap[gb431]? = some (.cells #[.int .i64 a0_0, .int .i64 a0_1, (.slice A0_2 l0_2.length c0_2)] 58 (0, 0))) ∧ Aside0 (wc.heap[gb448]? = some (.cells #[(.slice Ao20 t438.length co20), (.slice Ao23 t441.length co23), (.slice Ao24 t444.length co24)] 61 (0, 0))) ∧ Aside0 (wc.heap[gb454]? = some (.cells #[.int .i64 t449, .int .i64 t450, (.slice Ao31 t451.length co31)] 32 (0, 0))) ∧ Aside0 (wc.heap[gb465]? = some (.cells #[(.slice Ao34 t455.length co34), (.slice Ao39 t458.length co39), (.slice Ao40 t461.length co40)] 61 (0, 0))) ∧ Aside0 (Below w.heap.size w wc))
      case first =>
       have H := HC64.out
       clear HC64
       by_cases c74 : t473 < 0
       ·rw [if_pos c74] at H
        have c74b0 := decide_eq_true c74
        clear c74
        (first | rw [c74b0] | (simp only [i64_w, i32_w]; rw [c74b0]) | rw [c74b1] | skip)
        have H' := Aside0.mk H
        clear H
        go_wp2
        go_meet
        case rel => exact ⟨_, (true), rS, H', ⟨by have := HJ10.out; first | omega | exact Nat.le_refl _⟩, ⟨by (with_reducible repeat (first | apply Kd.S_alloc | apply Kd.S_drewN | apply Kd.S_drew)); exact HO_449000.out⟩, ⟨by (with_reducible repeat (first | apply Kd.S_alloc | apply Kd.S_drewN | apply Kd.S_drew)); exact HO_449001.out⟩, ⟨by (with_reducible repeat (first | apply Kd.S_alloc | apply Kd.S_drewN | apply Kd.S_drew)); exact HO_449002.out⟩, ⟨by (with_reducible repeat (first | apply Kd.S_alloc | apply Kd.S_drewN | apply Kd.S_drew)); exact Kd.S_mono HO_455002.out (fun _ hk => trivial)⟩, ⟨by (with_reducible repeat (first | apply Kd.S_alloc | apply Kd.S_drewN | apply Kd.S_drew)); exact HO_466000.out⟩, ⟨by (with_reducible repeat (first | apply Kd.S_alloc | apply Kd.S_drewN | apply Kd.S_drew)); exact HO_466001.out⟩, ⟨by (with_reducible repeat (first | apply Kd.S_alloc | apply Kd.S_drewN | apply Kd.S_drew)); exact HO_466002.out⟩, ⟨bP BK431⟩, ⟨bP BK448⟩, ⟨bP BK454⟩, ⟨bP BK465⟩, ⟨bZ HB⟩⟩
       ·rw [if_neg c74] at H
        have c74b0 := decide_eq_false c74
        clear c74
        (first | rw [c74b0] | (simp only [i64_w, i32_w]; rw [c74b0]) | rw [c74b1] | skip)
        replace H := Option.bind_eq_some_iff.mp H
        obtain ⟨t474, A750, H⟩ := H
        have A75 := Aside0.mk A750
        clear A750
        by_cases c76 : t474 = true
        ·subst c76
         rw [if_pos rfl] at H
         have H' := Aside0.mk H
         clear H
         obtain ⟨hnb77, hnc77⟩ := nB NB465_431
         obtain ⟨hnb78, hnc78⟩ := nB NB465_448
         obtain ⟨hnb79, hnc79⟩ := nB NB465_454
         obtain ⟨hcz80_0, hcz80_1, hcz80_2, hfz80_0, hfz80_1, hfz80_2⟩ := bK3 (w := w73) BK465
         obtain ⟨hnb81, hnc81⟩ := nB NB448_431
         obtain ⟨hnb82, hnc82⟩ := nB NB448_454
         obtain ⟨hcz83_0, hcz83_1, hcz83_2, hfz83_0, hfz83_1, hfz83_2⟩ := bK3 (w := w73) BK448
         go_wp2_with (first | (go_at_call 58; (with_reducible refine (laws_eqQap.calls kj10 _ _ t455 _ _ t458 _ _ t461 _ _ t438 _ _ t441 _ _ t444 true _ ?side1 ?side2 ?side3 ?side4 ?side5 ?side6 ?side7 ?side8 ?side9 ?side10 ?side11 ?side12 A75.out).mono ?_); (case side1 => exact cP ((Kd.S_reads' (ownD HO_466000.out)).2.2)); (case side2 => exact (Kd.S_reads' (ownD HO_466000.out)).2.1); (case side3 => exact cP ((Kd.S_reads' (ownD HO_466001.out)).2.2)); (case side4 => exact (Kd.S_reads' (ownD HO_466001.out)).2.1); (case side5 => exact cP ((Kd.S_reads' (ownD HO_466002.out)).2.2)); (case side6 => exact (Kd.S_reads' (ownD HO_466002.out)).2.1); (case side7 => exact cP ((Kd.S_reads' (ownD HO_449000.out)).2.2)); (case side8 => exact (Kd.S_reads' (ownD HO_449000.out)).2.1); (case side9 => exact cP ((Kd.S_reads' (ownD HO_449001.out)).2.2)); (case side10 => exact (Kd.S_reads' (ownD HO_449001.out)).2.1); (case side11 => exact cP ((Kd.S_reads' (ownD HO_449002.out)).2.2)); (case side12 => exact (Kd.S_reads' (ownD HO_449002.out)).2.1); rintro e w84 ⟨rfl, hb⟩; replace HO_449000 := Aside0.mk (Kd.S_below (by (with_reducible repeat (first | apply Kd.S_alloc | apply Kd.S_drewN | apply Kd.S_drew)); exact HO_449000.out) hb); replace HO_449001 := Aside0.mk (Kd.S_below (by (with_reducible repeat (first | apply Kd.S_alloc | apply Kd.S_drewN | apply Kd.S_drew)); exact HO_449001.out) hb); replace HO_449002 := Aside0.mk (Kd.S_below (by (with_reducible repeat (first | apply Kd.S_alloc | apply Kd.S_drewN | apply Kd.S_drew)); exact HO_449002.out) hb); replace HO_455002 := Aside0.mk (Kd.S_below (by (with_reducible repeat (first | apply Kd.S_alloc | apply Kd.S_drewN | apply Kd.S_drew)); exact HO_455002.out) hb); replace HO_466000 := Aside0.mk (Kd.S_below (by (with_reducible repeat (first | apply Kd.S_alloc | apply Kd.S_drewN | apply Kd.S_drew)); exact HO_466000.out) hb); replace HO_466001 := Aside0.mk (Kd.S_below (by (with_reducible repeat (first | apply Kd.S_alloc | apply Kd.S_drewN | apply Kd.S_drew)); exact HO_466001.out) hb); replace HO_466002 := Aside0.mk (Kd.S_below (by (with_reducible repeat (first | apply Kd.S_alloc | apply Kd.S_drewN | apply Kd.S_drew)); exact HO_466002.out) hb); replace BK431 := bB BK431 hb; replace BK448 := bB BK448 hb; replace BK454 := bB BK454 hb; replace BK465 := bB BK465 hb; replace HB := bS HB hb; (try clear hb)))
         go_meet
         case rel => exact ⟨_, ((t464 != t447)), rS, H', ⟨by have := HJ10.out; first | omega | exact Nat.le_refl _⟩, ⟨by (with_reducible repeat (first | apply Kd.S_alloc | apply Kd.S_drewN | apply Kd.S_drew)); exact HO_449000.out⟩, ⟨by (with_reducible repeat (first | apply Kd.S_alloc | apply Kd.S_drewN | apply Kd.S_drew)); exact HO_449001.out⟩, ⟨by (with_reducible repeat (first | apply Kd.S_alloc | apply Kd.S_drewN | apply Kd.S_drew)); exact HO_449002.out⟩, ⟨by (with_reducible repeat (first | apply Kd.S_alloc | apply Kd.S_drewN | apply Kd.S_drew)); exact Kd.S_mono HO_455002.out (fun _ hk => trivial)⟩, ⟨by (with_reducible repeat (first | apply Kd.S_alloc | apply Kd.S_drewN | apply Kd.S_drew)); exact HO_466000.out⟩, ⟨by (with_reducible repeat (first | apply Kd.S_alloc | apply Kd.S_drewN | apply Kd.S_drew)); exact HO_466001.out⟩, ⟨by (with_reducible repeat (first | apply Kd.S_alloc | apply Kd.S_drewN | apply Kd.S_drew)); exact HO_466002.out⟩, ⟨bP BK431⟩, ⟨bP BK448⟩, ⟨bP BK454⟩, ⟨bP BK465⟩, ⟨bZ HB⟩⟩
        ·replace c76 := Bool.eq_false_iff.mpr c76
         subst c76
         rw [if_neg (show ¬ (false = true) by decide)] at H
         have H' := Aside0.mk H
         clear H
         obtain ⟨hnb85, hnc85⟩ := nB NB465_431
         obtain ⟨hnb86, hnc86⟩ := nB NB465_448
         obtain ⟨hnb87, hnc87⟩ := nB NB465_454
         obtain ⟨hcz88_0, hcz88_1, hcz88_2, hfz88_0, hfz88_1, hfz88_2⟩ := bK3 (w := w73) BK465
         obtain ⟨hnb89, hnc89⟩ := nB NB448_431
         obtain ⟨hnb90, hnc90⟩ := nB NB448_454
         obtain ⟨hcz91_0, hcz91_1, hcz91_2, hfz91_0, hfz91_1, hfz91_2⟩ := bK3 (w := w73) BK448
         go_wp2_with (first | (go_at_call 58; (with_reducible refine (laws_eqQap.calls kj10 _ _ t455 _ _ t458 _ _ t461 _ _ t438 _ _ t441 _ _ t444 false _ ?side1 ?side2 ?side3 ?side4 ?side5 ?side6 ?side7 ?side8 ?side9 ?side10 ?side11 ?side12 A75.out).mono ?_); (case side1 => exact cP ((Kd.S_reads' (ownD HO_466000.out)).2.2)); (case side2 => exact (Kd.S_reads' (ownD HO_466000.out)).2.1); (case side3 => exact cP ((Kd.S_reads' (ownD HO_466001.out)).2.2)); (case side4 => exact (Kd.S_reads' (ownD HO_466001.out)).2.1); (case side5 => exact cP ((Kd.S_reads' (ownD HO_466002.out)).2.2)); (case side6 => exact (Kd.S_reads' (ownD HO_466002.out)).2.1); (case side7 => exact cP ((Kd.S_reads' (ownD HO_449000.out)).2.2)); (case side8 => exact (Kd.S_reads' (ownD HO_449000.out)).2.1); (case side9 => exact cP ((Kd.S_reads' (ownD HO_449001.out)).2.2)); (case side10 => exact (Kd.S_reads' (ownD HO_449001.out)).2.1); (case side11 => exact cP ((Kd.S_reads' (ownD HO_449002.out)).2.2)); (case side12 => exact (Kd.S_reads' (ownD HO_449002.out)).2.1); rintro e w92 ⟨rfl, hb⟩; replace HO_449000 := Aside0.mk (Kd.S_below (by (with_reducible repeat (first | apply Kd.S_alloc | apply Kd.S_drewN | apply Kd.S_drew)); exact HO_449000.out) hb); replace HO_449001 := Aside0.mk (Kd.S_below (by (with_reducible repeat (first | apply Kd.S_alloc | apply Kd.S_drewN | apply Kd.S_drew)); exact HO_449001.out) hb); replace HO_449002 := Aside0.mk (Kd.S_below (by (with_reducible repeat (first | apply Kd.S_alloc | apply Kd.S_drewN | apply Kd.S_drew)); exact HO_449002.out) hb); replace HO_455002 := Aside0.mk (Kd.S_below (by (with_reducible repeat (first | apply Kd.S_alloc | apply Kd.S_drewN | apply Kd.S_drew)); exact HO_455002.out) hb); replace HO_466000 := Aside0.mk (Kd.S_below (by (with_reducible repeat (first | apply Kd.S_alloc | apply Kd.S_drewN | apply Kd.S_drew)); exact HO_466000.out) hb); replace HO_466001 := Aside0.mk (Kd.S_below (by (with_reducible repeat (first | apply Kd.S_alloc | apply Kd.S_drewN | apply Kd.S_drew)); exact HO_466001.out) hb); replace HO_466002 := Aside0.mk (Kd.S_below (by (with_reducible repeat (first | apply Kd.S_alloc | apply Kd.S_drewN | apply Kd.S_drew)); exact HO_466002.out) hb); replace BK431 := bB BK431 hb; replace BK448 := bB BK448 hb; replace BK454 := bB BK454 hb; replace BK465 := bB BK465 hb; replace HB := bS HB hb; (try clear hb)))
         go_meet
         case rel => exact ⟨_, (true), rS, H', ⟨by have := HJ10.out; first | omega | exact Nat.le_refl _⟩, ⟨by (with_reducible repeat (first | apply Kd.S_alloc | apply Kd.S_drewN | apply Kd.S_drew)); exact HO_449000.out⟩, ⟨by (with_reducible repeat (first | apply Kd.S_alloc | apply Kd.S_drewN | apply Kd.S_drew)); exact HO_449001.out⟩, ⟨by (with_reducible repeat (first | apply Kd.S_alloc | apply Kd.S_drewN | apply Kd.S_drew)); exact HO_449002.out⟩, ⟨by (with_reducible repeat (first | apply Kd.S_alloc | apply Kd.S_drewN | apply Kd.S_drew)); exact Kd.S_mono HO_455002.out (fun _ hk => trivial)⟩, ⟨by (with_reducible repeat (first | apply Kd.S_alloc | apply Kd.S_drewN | apply Kd.S_drew)); exact HO_466000.out⟩, ⟨by (with_reducible repeat (first | apply Kd.S_alloc | apply Kd.S_drewN | apply Kd.S_drew)); exact HO_466001.out⟩, ⟨by (with_reducible repeat (first | apply Kd.S_alloc | apply Kd.S_drewN | apply Kd.S_drew)); exact HO_466002.out⟩, ⟨bP BK431⟩, ⟨bP BK448⟩, ⟨bP BK454⟩, ⟨bP BK465⟩, ⟨bZ HB⟩⟩
      case rest =>
       clear HC64
       try clear c1
       try clear c2
       try clear p2
       try clear c3
       try clear c3b0
       try clear c4
       try clear c5
       try clear c6
       try clear c7
       try clear c8
       try clear c9
       try clear c14
       try clear c21
       try clear c28
       try clear c29
       try clear c35
       try clear c36
       try clear c37
       try clear c42
       try clear c43
       try clear c44
       try clear c45
       try clear c47
       try clear c48
       try clear c51
       try clear c52
       try clear c53
       try clear c54
       try clear c55
       try clear c56
       try clear c57
       try clear c58
       try clear c59
       try clear c60
       try clear c62
       try clear c69
       try clear c70
       try clear c71
       try clear c74
       try clear c74b0
       try clear c76
       try clear c77
       try clear c78
       try clear c79
       try clear c81
       try clear c82
       try clear c85
       try clear c86
       try clear c87
       try clear c89
       try clear c90
       try clear hcz13_0
       try clear hcz13_1
       try clear hcz13_2
       try clear hcz15_0
       try clear hcz15_1
       try clear hcz15_2
       try clear hcz22_0
       try clear hcz22_1
       try clear hcz22_2
       try clear hcz25_0
       try clear hcz25_1
       try clear hcz25_2
       try clear hcz30_0
       try clear hcz30_1
       try clear hcz30_2
       try clear hcz38_0
       try clear hcz38_1
       try clear hcz38_2
       try clear hcz46_0
       try clear hcz46_1
       try clear hcz46_2
       try clear hcz49_0
       try clear hcz49_1
       try clear hcz49_2
       try clear hcz54_0
       try clear hcz54_1
       try clear hcz54_2
       try clear hcz57_0
       try clear hcz57_1
       try clear hcz57_2
       try clear hcz5_0
       try clear hcz5_1
       try clear hcz5_2
       try clear hcz72_0
       try clear hcz72_1
       try clear hcz72_2
       try clear hcz80_0
       try clear hcz80_1
       try clear hcz80_2
       try clear hcz83_0
       try clear hcz83_1
       try clear hcz83_2
       try clear hcz88_0
       try clear hcz88_1
       try clear hcz88_2
       try clear hcz91_0
       try clear hcz91_1
       try clear hcz91_2
       try clear hfz13_0
       try clear hfz13_1
       try clear hfz13_2
       try clear hfz15_0
       try clear hfz15_1
       try clear hfz15_2
       try clear hfz22_0
       try clear hfz22_1
       try clear hfz22_2
       try clear hfz25_0
       try clear hfz25_1
       try clear hfz25_2
       try clear hfz30_0
       try clear hfz30_1
       try clear hfz30_2
       try clear hfz38_0
       try clear hfz38_1
       try clear hfz38_2
       try clear hfz46_0
       try clear hfz46_1
       try clear hfz46_2
       try clear hfz49_0
       try clear hfz49_1
       try clear hfz49_2
       try clear hfz54_0
       try clear hfz54_1
       try clear hfz54_2
       try clear hfz57_0
       try clear hfz57_1
       try clear hfz57_2
       try clear hfz5_0
       try clear hfz5_1
       try clear hfz5_2
       try clear hfz72_0
       try clear hfz72_1
       try clear hfz72_2
       try clear hfz80_0
       try clear hfz80_1
       try clear hfz80_2
       try clear hfz83_0
       try clear hfz83_1
       try clear hfz83_2
       try clear hfz88_0
       try clear hfz88_1
       try clear hfz88_2
       try clear hfz91_0
       try clear hfz91_1
       try clear hfz91_2
       try clear p2
       obtain ⟨kq, x61_63, rfl, HA, HJ63, HO_449000, HO_449001, HO_449002, HO_455002, HO_466000, HO_466001, HO_466002, BK431, BK448, BK454, BK465, HB⟩ := hcut
       cases kq with
       | zero => exact absurd HA.out (by simp [laws_FnExactQapOf.j1])
       | succ kj63 =>
        have H := HA.out
        clear HA
        simp only [laws_FnExactQapOf.j1] at H
        by_cases c93 : x61_63 = true
        ·subst c93
         rw [if_pos rfl] at H
         exact absurd (Option.some.inj H) (by rw [htrue.out]; exact Bool.false_ne_true)
        ·replace c93 := Bool.eq_false_iff.mpr c93
         subst c93
         rw [if_neg (show ¬ (false = true) by decide)] at H
         replace H := Option.bind_eq_some_iff.mp H
         obtain ⟨⟨t475, y475a, y475b, y475c⟩, A940, H⟩ := H
         try dsimp only at H
         have A94 := Aside0.mk A940
         clear A940
         replace H := Option.bind_eq_some_iff.mp H
         obtain ⟨t476, A950, H⟩ := H
         have A95 := Aside0.mk A950
         clear A950
         by_cases c96 : t476 < 0
         ·rw [if_pos c96] at H
          have c96b0 := decide_eq_true c96
          clear c96
          exact absurd (Option.some.inj H) (by rw [htrue.out]; exact Bool.false_ne_true)
         ·rw [if_neg c96] at H
          have c96b0 := decide_eq_false c96
          clear c96
          by_cases c97 : t476 = t475
          ·rw [if_pos c97] at H
           have c97b0 : (t476 == t475) = true := beq_iff_eq.mpr c97
           have c97b1 : (t476 != t475) = false := bne_eq_false_iff_eq.mpr c97
           clear c97
           replace H := Option.bind_eq_some_iff.mp H
           obtain ⟨⟨t477, t478, t479⟩, A980, H⟩ := H
           have A98 := Aside0.mk A980
           clear A980
           replace H := Option.bind_eq_some_iff.mp H
           obtain ⟨⟨t482, t485, t488, t491⟩, A990, H⟩ := H
           have A99 := Aside0.mk A990
           clear A990
           have HC100 := Aside0.mk H
           clear H
           obtain ⟨hnb101, hnc101⟩ := nB NB465_431
           obtain ⟨hnb102, hnc102⟩ := nB NB465_448
           obtain ⟨hnb103, hnc103⟩ := nB NB465_454
           obtain ⟨hcz104_0, hcz104_1, hcz104_2, hfz104_0, hfz104_1, hfz104_2⟩ := bK3 (w := wc) BK465
           go_upto_region 25 with (first | (refine gC (some 64) Try.func61 #[.agg #[.slice Ao34 t455.length co34, .slice Ao39 t458.length co39, .slice Ao40 t461.length co40], .int .i64 1] ?_; (refine (laws_markQap.callsg kj63 F_ ?o0 ?o1 ?o2 _ _ _ t455 t458 t461 1 t475 y475a y475b y475c w _ ?side1 ?h0 ?h1 ?h2 ?a01 ?a02 ?a12 A94.out).mono ?_); (case h0 => first | exact HO_466000.out | exact Kd.S_drew HO_466000.out | exact Kd.S_drewN HO_466000.out _); (case h1 => first | exact HO_466001.out | exact Kd.S_drew HO_466001.out | exact Kd.S_drewN HO_466001.out _); (case h2 => first | exact HO_466002.out | exact Kd.S_drew HO_466002.out | exact Kd.S_drewN HO_466002.out _); (case side1 => exact (bZ HB)); (case a01 => exact (fun k_ e_ e2_ => (sOk HO_466001.out k_ e2_).2.2.2.1 e_.symm)); (case a02 => exact (fun k_ e_ e2_ => (sOk HO_466002.out k_ e2_).2.2.2.1 e_.symm)); (case a12 => exact (fun k_ e_ e2_ => (sOk HO_466002.out k_ e2_).2.2.2.2 e_.symm)); rintro e w105 ⟨rfl, ho0, ho1, ho2, hb, hkp⟩; refine ⟨_, rfl, ?_⟩; replace HO_449000 := Aside0.mk (ownK (by (with_reducible repeat (first | apply Kd.S_alloc | apply Kd.S_drewN | apply Kd.S_drew)); exact HO_449000.out) hkp (fun k_ e1_ h_ => h_.elim (fun e2_ => absurd (e1_.symm.trans e2_) (by decide)) (fun h_ => h_.elim (fun e2_ => absurd (e1_.symm.trans e2_) (by decide)) (fun e2_ => absurd (e1_.symm.trans e2_) (by decide)))) (by decide) (fun k_ e_ h_ => h_.elim (sOk HO_449000.out k_ e_).2.2.1 (fun h_ => h_.elim (sOk HO_449000.out k_ e_).2.2.2.1 (sOk HO_449000.out k_ e_).2.2.2.2)) (fun k_ h_ => h_.elim (typNe (by (with_reducible repeat (first | apply Kd.S_alloc | apply Kd.S_drewN | apply Kd.S_drew)); exact HO_466000.out) (by decide) k_) (fun h_ => h_.elim (typNe (by (with_reducible repeat (first | apply Kd.S_alloc | apply Kd.S_drewN | apply Kd.S_drew)); exact HO_466001.out) (by decide) k_) (typNe (by (with_reducible repeat (first | apply Kd.S_alloc | apply Kd.S_drewN | apply Kd.S_drew)); exact HO_466002.out) (by decide) k_)))); replace HO_449001 := Aside0.mk (ownK (by (with_reducible repeat (first | apply Kd.S_alloc | apply Kd.S_drewN | apply Kd.S_drew)); exact HO_449001.out) hkp (fun k_ e1_ h_ => h_.elim (fun e2_ => absurd (e1_.symm.trans e2_) (by decide)) (fun h_ => h_.elim (fun e2_ => absurd (e1_.symm.trans e2_) (by decide)) (fun e2_ => absurd (e1_.symm.trans e2_) (by decide)))) (by decide) (fun k_ e_ h_ => h_.elim (sOk HO_449001.out k_ e_).2.2.1 (fun h_ => h_.elim (sOk HO_449001.out k_ e_).2.2.2.1 (sOk HO_449001.out k_ e_).2.2.2.2)) (fun k_ h_ => h_.elim (typNe (by (with_reducible repeat (first | apply Kd.S_alloc | apply Kd.S_drewN | apply Kd.S_drew)); exact HO_466000.out) (by decide) k_) (fun h_ => h_.elim (typNe (by (with_reducible repeat (first | apply Kd.S_alloc | apply Kd.S_drewN | apply Kd.S_drew)); exact HO_466001.out) (by decide) k_) (typNe (by (with_reducible repeat (first | apply Kd.S_alloc | apply Kd.S_drewN | apply Kd.S_drew)); exact HO_466002.out) (by decide) k_)))); replace HO_449002 := Aside0.mk (ownK (by (with_reducible repeat (first | apply Kd.S_alloc | apply Kd.S_drewN | apply Kd.S_drew)); exact HO_449002.out) hkp (fun k_ e1_ h_ => h_.elim (fun e2_ => absurd (e1_.symm.trans e2_) (by decide)) (fun h_ => h_.elim (fun e2_ => absurd (e1_.symm.trans e2_) (by decide)) (fun e2_ => absurd (e1_.symm.trans e2_) (by decide)))) (by decide) (fun k_ e_ h_ => h_.elim (sOk HO_449002.out k_ e_).2.2.1 (fun h_ => h_.elim (sOk HO_449002.out k_ e_).2.2.2.1 (sOk HO_449002.out k_ e_).2.2.2.2)) (fun k_ h_ => h_.elim (typNe (by (with_reducible repeat (first | apply Kd.S_alloc | apply Kd.S_drewN | apply Kd.S_drew)); exact HO_466000.out) (by decide) k_) (fun h_ => h_.elim (typNe (by (with_reducible repeat (first | apply Kd.S_alloc | apply Kd.S_drewN | apply Kd.S_drew)); exact HO_466001.out) (by decide) k_) (typNe (by (with_reducible repeat (first | apply Kd.S_alloc | apply Kd.S_drewN | apply Kd.S_drew)); exact HO_466002.out) (by decide) k_)))); replace HO_455002 := Aside0.mk (ownK (by (with_reducible repeat (first | apply Kd.S_alloc | apply Kd.S_drewN | apply Kd.S_drew)); exact HO_455002.out) hkp (fun k_ e1_ h_ => h_.elim (fun e2_ => absurd (e1_.symm.trans e2_) (by decide)) (fun h_ => h_.elim (fun e2_ => absurd (e1_.symm.trans e2_) (by decide)) (fun e2_ => absurd (e1_.symm.trans e2_) (by decide)))) (by decide) (fun k_ e_ h_ => h_.elim (tyNe2 HO_455002.out HO_466000.out (by decide) k_ e_) (fun h_ => h_.elim (tyNe2 HO_455002.out HO_466001.out (by decide) k_ e_) (tyNe2 HO_455002.out HO_466002.out (by decide) k_ e_))) (fun k_ h_ => h_.elim (typNe (by (with_reducible repeat (first | apply Kd.S_alloc | apply Kd.S_drewN | apply Kd.S_drew)); exact HO_466000.out) (by decide) k_) (fun h_ => h_.elim (typNe (by (with_reducible repeat (first | apply Kd.S_alloc | apply Kd.S_drewN | apply Kd.S_drew)); exact HO_466001.out) (by decide) k_) (typNe (by (with_reducible repeat (first | apply Kd.S_alloc | apply Kd.S_drewN | apply Kd.S_drew)); exact HO_466002.out) (by decide) k_)))); replace BK431 := Aside0.mk (blkKeep (bP BK431) hkp (by decide) (fun k_ h_ => h_.elim (typNe1 (by (with_reducible repeat (first | apply Kd.S_alloc | apply Kd.S_drewN | apply Kd.S_drew)); exact HO_466000.out) (by decide) k_) (fun h_ => h_.elim (typNe1 (by (with_reducible repeat (first | apply Kd.S_alloc | apply Kd.S_drewN | apply Kd.S_drew)); exact HO_466001.out) (by decide) k_) (typNe1 (by (with_reducible repeat (first | apply Kd.S_alloc | apply Kd.S_drewN | apply Kd.S_drew)); exact HO_466002.out) (by decide) k_)))); replace BK448 := Aside0.mk (blkKeep (bP BK448) hkp (by decide) (fun k_ h_ => h_.elim (typNe1 (by (with_reducible repeat (first | apply Kd.S_alloc | apply Kd.S_drewN | apply Kd.S_drew)); exact HO_466000.out) (by decide) k_) (fun h_ => h_.elim (typNe1 (by (with_reducible repeat (first | apply Kd.S_alloc | apply Kd.S_drewN | apply Kd.S_drew)); exact HO_466001.out) (by decide) k_) (typNe1 (by (with_reducible repeat (first | apply Kd.S_alloc | apply Kd.S_drewN | apply Kd.S_drew)); exact HO_466002.out) (by decide) k_)))); replace BK454 := Aside0.mk (blkKeep (bP BK454) hkp (by decide) (fun k_ h_ => h_.elim (typNe1 (by (with_reducible repeat (first | apply Kd.S_alloc | apply Kd.S_drewN | apply Kd.S_drew)); exact HO_466000.out) (by decide) k_) (fun h_ => h_.elim (typNe1 (by (with_reducible repeat (first | apply Kd.S_alloc | apply Kd.S_drewN | apply Kd.S_drew)); exact HO_466001.out) (by decide) k_) (typNe1 (by (with_reducible repeat (first | apply Kd.S_alloc | apply Kd.S_drewN | apply Kd.S_drew)); exact HO_466002.out) (by decide) k_)))); replace BK465 := Aside0.mk (blkKeep (bP BK465) hkp (by decide) (fun k_ h_ => h_.elim (typNe1 (by (with_reducible repeat (first | apply Kd.S_alloc | apply Kd.S_drewN | apply Kd.S_drew)); exact HO_466000.out) (by decide) k_) (fun h_ => h_.elim (typNe1 (by (with_reducible repeat (first | apply Kd.S_alloc | apply Kd.S_drewN | apply Kd.S_drew)); exact HO_466001.out) (by decide) k_) (typNe1 (by (with_reducible repeat (first | apply Kd.S_alloc | apply Kd.S_drewN | apply Kd.S_drew)); exact HO_466002.out) (by decide) k_)))); replace HO_466000 := Aside0.mk ho0; replace HO_466001 := Aside0.mk ho1; replace HO_466002 := Aside0.mk ho2; replace HB := Aside0.mk hb; clear ho0 ho1 ho2 hb hkp; obtain ⟨hcz106_0, hcz106_1, hcz106_2, hfz106_0, hfz106_1, hfz106_2⟩ := bK3 (w := w105) BK465) | (refine gC (some 67) Try.func62 #[.agg #[.slice Ao34 t455.length co34, .slice Ao39 t458.length co39, .slice Ao40 t461.length co40], .int .i64 1] ?_; (refine (heldQapN kj63 _ _ y475a _ _ y475b _ _ y475c 1 t476 _ t455.length t458.length t461.length (Kd.S_reads' (ownD HO_466000.out)).1.symm (Kd.S_reads' (ownD HO_466001.out)).1.symm (Kd.S_reads' (ownD HO_466002.out)).1.symm ?side1 ?side2 ?side3 ?side4 ?side5 ?side6 A95.out).mono ?_); (case side1 => exact cP ((Kd.S_reads' (ownD HO_466000.out)).2.2)); (case side2 => exact (Kd.S_reads' (ownD HO_466000.out)).2.1); (case side3 => exact cP ((Kd.S_reads' (ownD HO_466001.out)).2.2)); (case side4 => exact (Kd.S_reads' (ownD HO_466001.out)).2.1); (case side5 => exact cP ((Kd.S_reads' (ownD HO_466002.out)).2.2)); (case side6 => exact (Kd.S_reads' (ownD HO_466002.out)).2.1); rintro e w107 ⟨rfl, hb⟩; refine ⟨_, rfl, ?_⟩; replace HO_449000 := Aside0.mk (Kd.S_below (by (with_reducible repeat (first | apply Kd.S_alloc | apply Kd.S_drewN | apply Kd.S_drew)); exact HO_449000.out) hb); replace HO_449001 := Aside0.mk (Kd.S_below (by (with_reducible repeat (first | apply Kd.S_alloc | apply Kd.S_drewN | apply Kd.S_drew)); exact HO_449001.out) hb); replace HO_449002 := Aside0.mk (Kd.S_below (by (with_reducible repeat (first | apply Kd.S_alloc | apply Kd.S_drewN | apply Kd.S_drew)); exact HO_449002.out) hb); replace HO_455002 := Aside0.mk (Kd.S_below (by (with_reducible repeat (first | apply Kd.S_alloc | apply Kd.S_drewN | apply Kd.S_drew)); exact HO_455002.out) hb); replace HO_466000 := Aside0.mk (Kd.S_below (by (with_reducible repeat (first | apply Kd.S_alloc | apply Kd.S_drewN | apply Kd.S_drew)); exact HO_466000.out) hb); replace HO_466001 := Aside0.mk (Kd.S_below (by (with_reducible repeat (first | apply Kd.S_alloc | apply Kd.S_drewN | apply Kd.S_drew)); exact HO_466001.out) hb); replace HO_466002 := Aside0.mk (Kd.S_below (by (with_reducible repeat (first | apply Kd.S_alloc | apply Kd.S_drewN | apply Kd.S_drew)); exact HO_466002.out) hb); replace BK431 := bB BK431 hb; replace BK448 := bB BK448 hb; replace BK454 := bB BK454 hb; replace BK465 := bB BK465 hb; replace HB := bS HB hb; (try clear hb); obtain ⟨hnb108, hnc108⟩ := nB NB431_448; obtain ⟨hnb109, hnc109⟩ := nB NB431_454; obtain ⟨hcz110_0, hcz110_1, hcz110_2, hfz110_0, hfz110_1, hfz110_2⟩ := bK3 (w := w107) BK431) | (refine gC (some 75) Try.func56 #[.agg #[.int .i64 a0_0, .int .i64 a0_1, .slice A0_2 l0_2.length c0_2]] ?_; (with_reducible refine (laws_toSystem.calls kj63 a0_0 a0_1 _ _ l0_2 t477 t478 t479 _ ?side1 ?side2 A98.out).mono ?_); (case side1 => exact cP (Kd.C_below HR0_2.out HB.out)); (case side2 => exact HC0_2.out); rintro e w111 ⟨v480, rfl, ho0, hb⟩; refine ⟨_, rfl, ?_⟩; replace HO_449000 := Aside0.mk (Kd.S_below (by (with_reducible repeat (first | apply Kd.S_alloc | apply Kd.S_drewN | apply Kd.S_drew)); exact HO_449000.out) hb); replace HO_449001 := Aside0.mk (Kd.S_below (by (with_reducible repeat (first | apply Kd.S_alloc | apply Kd.S_drewN | apply Kd.S_drew)); exact HO_449001.out) hb); replace HO_449002 := Aside0.mk (Kd.S_below (by (with_reducible repeat (first | apply Kd.S_alloc | apply Kd.S_drewN | apply Kd.S_drew)); exact HO_449002.out) hb); replace HO_466000 := Aside0.mk (Kd.S_below (by (with_reducible repeat (first | apply Kd.S_alloc | apply Kd.S_drewN | apply Kd.S_drew)); exact HO_466000.out) hb); replace HO_466001 := Aside0.mk (Kd.S_below (by (with_reducible repeat (first | apply Kd.S_alloc | apply Kd.S_drewN | apply Kd.S_drew)); exact HO_466001.out) hb); replace HO_466002 := Aside0.mk (Kd.S_below (by (with_reducible repeat (first | apply Kd.S_alloc | apply Kd.S_drewN | apply Kd.S_drew)); exact HO_466002.out) hb); have HO481 := Aside0.mk (Kd.S_lower (Kd.S_new' ho0 (Kd.S_lt (by (with_reducible repeat (first | apply Kd.S_alloc | apply Kd.S_drewN | apply Kd.S_drew)); exact HO_455002.out))) (below_size (bZ HB))); replace HO_455002 := Aside0.mk (Kd.S_elder' (by (with_reducible repeat (first | apply Kd.S_alloc | apply Kd.S_drewN | apply Kd.S_drew)); exact HO_455002.out) (Kd.S_base ho0) hb); replace BK431 := bB BK431 hb; replace BK448 := bB BK448 hb; replace BK454 := bB BK454 hb; replace BK465 := bB BK465 hb; replace HB := bS HB hb; (try clear hb); (try clear ho0); obtain ⟨Ao112, co112, eo112⟩ := Kd.S_slice HO481.out; subst eo112) | (refine gC (some 76) Try.func57 #[.agg #[.int .i64 t477, .int .i64 t478, .slice Ao112 t479.length co112]] ?_; (with_reducible refine (impl_QapOf.calls kj63 t477 t478 _ _ t479 t482 t485 t488 t491 _ ?side1 ?side2 A99.out).mono ?_); (case side1 => exact cP ((Kd.S_reads' HO481.out).2.2)); (case side2 => exact (Kd.S_reads' HO481.out).2.1); rintro e w113 ⟨F3_, v483, v486, v489, rfl, ho0, ho1, ho2, hb⟩; refine ⟨_, rfl, ?_⟩; replace ho0 := ownD ho0; replace ho1 := ownD ho1; replace ho2 := ownD ho2; replace HO_455002 := Aside0.mk (Kd.S_below (by (with_reducible repeat (first | apply Kd.S_alloc | apply Kd.S_drewN | apply Kd.S_drew)); exact HO_455002.out) hb); replace HO481 := Aside0.mk (Kd.S_below (by (with_reducible repeat (first | apply Kd.S_alloc | apply Kd.S_drewN | apply Kd.S_drew)); exact HO481.out) hb); have HO484 := Aside0.mk (Kd.S_lower (Kd.S_new' (Kd.S_new' (Kd.S_new' (Kd.S_new' (Kd.S_new' (Kd.S_new' ho0 (Kd.S_lt (by (with_reducible repeat (first | apply Kd.S_alloc | apply Kd.S_drewN | apply Kd.S_drew)); exact HO_449000.out))) (Kd.S_lt (by (with_reducible repeat (first | apply Kd.S_alloc | apply Kd.S_drewN | apply Kd.S_drew)); exact HO_449001.out))) (Kd.S_lt (by (with_reducible repeat (first | apply Kd.S_alloc | apply Kd.S_drewN | apply Kd.S_drew)); exact HO_449002.out))) (Kd.S_lt (by (with_reducible repeat (first | apply Kd.S_alloc | apply Kd.S_drewN | apply Kd.S_drew)); exact HO_466000.out))) (Kd.S_lt (by (with_reducible repeat (first | apply Kd.S_alloc | apply Kd.S_drewN | apply Kd.S_drew)); exact HO_466001.out))) (Kd.S_lt (by (with_reducible repeat (first | apply Kd.S_alloc | apply Kd.S_drewN | apply Kd.S_drew)); exact HO_466002.out))) (below_size (bZ HB))); have HO487 := Aside0.mk (Kd.S_lower (Kd.S_new' (Kd.S_new' (Kd.S_new' (Kd.S_new' (Kd.S_new' (Kd.S_new' ho1 (Kd.S_lt (by (with_reducible repeat (first | apply Kd.S_alloc | apply Kd.S_drewN | apply Kd.S_drew)); exact HO_449000.out))) (Kd.S_lt (by (with_reducible repeat (first | apply Kd.S_alloc | apply Kd.S_drewN | apply Kd.S_drew)); exact HO_449001.out))) (Kd.S_lt (by (with_reducible repeat (first | apply Kd.S_alloc | apply Kd.S_drewN | apply Kd.S_drew)); exact HO_449002.out))) (Kd.S_lt (by (with_reducible repeat (first | apply Kd.S_alloc | apply Kd.S_drewN | apply Kd.S_drew)); exact HO_466000.out))) (Kd.S_lt (by (with_reducible repeat (first | apply Kd.S_alloc | apply Kd.S_drewN | apply Kd.S_drew)); exact HO_466001.out))) (Kd.S_lt (by (with_reducible repeat (first | apply Kd.S_alloc | apply Kd.S_drewN | apply Kd.S_drew)); exact HO_466002.out))) (below_size (bZ HB))); have HO490 := Aside0.mk (Kd.S_lower (Kd.S_new' (Kd.S_new' (Kd.S_new' (Kd.S_new' (Kd.S_new' (Kd.S_new' ho2 (Kd.S_lt (by (with_reducible repeat (first | apply Kd.S_alloc | apply Kd.S_drewN | apply Kd.S_drew)); exact HO_449000.out))) (Kd.S_lt (by (with_reducible repeat (first | apply Kd.S_alloc | apply Kd.S_drewN | apply Kd.S_drew)); exact HO_449001.out))) (Kd.S_lt (by (with_reducible repeat (first | apply Kd.S_alloc | apply Kd.S_drewN | apply Kd.S_drew)); exact HO_449002.out))) (Kd.S_lt (by (with_reducible repeat (first | apply Kd.S_alloc | apply Kd.S_drewN | apply Kd.S_drew)); exact HO_466000.out))) (Kd.S_lt (by (with_reducible repeat (first | apply Kd.S_alloc | apply Kd.S_drewN | apply Kd.S_drew)); exact HO_466001.out))) (Kd.S_lt (by (with_reducible repeat (first | apply Kd.S_alloc | apply Kd.S_drewN | apply Kd.S_drew)); exact HO_466002.out))) (below_size (bZ HB))); replace HO_449000 := Aside0.mk (Kd.S_mono (Kd.S_told (Kd.S_told (Kd.S_told (Kd.S_old (by (with_reducible repeat (first | apply Kd.S_alloc | apply Kd.S_drewN | apply Kd.S_drew)); exact HO_449000.out) hb) (Kd.S_base ho0)) (Kd.S_base ho1)) (Kd.S_base ho2)) (fun _ h_ => h_.1)); replace HO_449001 := Aside0.mk (Kd.S_mono (Kd.S_told (Kd.S_told (Kd.S_told (Kd.S_old (by (with_reducible repeat (first | apply Kd.S_alloc | apply Kd.S_drewN | apply Kd.S_drew)); exact HO_449001.out) hb) (Kd.S_base ho0)) (Kd.S_base ho1)) (Kd.S_base ho2)) (fun _ h_ => h_.1)); replace HO_449002 := Aside0.mk (Kd.S_mono (Kd.S_told (Kd.S_told (Kd.S_told (Kd.S_old (by (with_reducible repeat (first | apply Kd.S_alloc | apply Kd.S_drewN | apply Kd.S_drew)); exact HO_449002.out) hb) (Kd.S_base ho0)) (Kd.S_base ho1)) (Kd.S_base ho2)) (fun _ h_ => h_.1)); replace HO_466000 := Aside0.mk (Kd.S_mono (Kd.S_told (Kd.S_told (Kd.S_told (Kd.S_old (by (with_reducible repeat (first | apply Kd.S_alloc | apply Kd.S_drewN | apply Kd.S_drew)); exact HO_466000.out) hb) (Kd.S_base ho0)) (Kd.S_base ho1)) (Kd.S_base ho2)) (fun _ h_ => h_.1)); replace HO_466001 := Aside0.mk (Kd.S_mono (Kd.S_told (Kd.S_told (Kd.S_told (Kd.S_old (by (with_reducible repeat (first | apply Kd.S_alloc | apply Kd.S_drewN | apply Kd.S_drew)); exact HO_466001.out) hb) (Kd.S_base ho0)) (Kd.S_base ho1)) (Kd.S_base ho2)) (fun _ h_ => h_.1)); replace HO_466002 := Aside0.mk (Kd.S_mono (Kd.S_told (Kd.S_told (Kd.S_told (Kd.S_old (by (with_reducible repeat (first | apply Kd.S_alloc | apply Kd.S_drewN | apply Kd.S_drew)); exact HO_466002.out) hb) (Kd.S_base ho0)) (Kd.S_base ho1)) (Kd.S_base ho2)) (fun _ h_ => h_.1)); replace BK431 := bB BK431 hb; replace BK448 := bB BK448 hb; replace BK454 := bB BK454 hb; replace BK465 := bB BK465 hb; replace HB := bS HB hb; (try clear hb); (try clear ho0); (try clear ho1); (try clear ho2)) | ((with_reducible refine gate_dst (N := 12) rfl ?_); refine bE 12 #[.slice none 0 0, .slice none 0 0, .slice none 0 0] 61 ?_; intro gb492 hg w114 hbox hb; replace HO_449000 := Aside0.mk (Kd.S_below (by (with_reducible repeat (first | apply Kd.S_alloc | apply Kd.S_drewN | apply Kd.S_drew)); exact HO_449000.out) hb); replace HO_449001 := Aside0.mk (Kd.S_below (by (with_reducible repeat (first | apply Kd.S_alloc | apply Kd.S_drewN | apply Kd.S_drew)); exact HO_449001.out) hb); replace HO_449002 := Aside0.mk (Kd.S_below (by (with_reducible repeat (first | apply Kd.S_alloc | apply Kd.S_drewN | apply Kd.S_drew)); exact HO_449002.out) hb); replace HO_455002 := Aside0.mk (Kd.S_below (by (with_reducible repeat (first | apply Kd.S_alloc | apply Kd.S_drewN | apply Kd.S_drew)); exact HO_455002.out) hb); replace HO_466000 := Aside0.mk (Kd.S_below (by (with_reducible repeat (first | apply Kd.S_alloc | apply Kd.S_drewN | apply Kd.S_drew)); exact HO_466000.out) hb); replace HO_466001 := Aside0.mk (Kd.S_below (by (with_reducible repeat (first | apply Kd.S_alloc | apply Kd.S_drewN | apply Kd.S_drew)); exact HO_466001.out) hb); replace HO_466002 := Aside0.mk (Kd.S_below (by (with_reducible repeat (first | apply Kd.S_alloc | apply Kd.S_drewN | apply Kd.S_drew)); exact HO_466002.out) hb); replace HO481 := Aside0.mk (Kd.S_below (by (with_reducible repeat (first | apply Kd.S_alloc | apply Kd.S_drewN | apply Kd.S_drew)); exact HO481.out) hb); replace HO484 := Aside0.mk (Kd.S_below (by (with_reducible repeat (first | apply Kd.S_alloc | apply Kd.S_drewN | apply Kd.S_drew)); exact HO484.out) hb); replace HO487 := Aside0.mk (Kd.S_below (by (with_reducible repeat (first | apply Kd.S_alloc | apply Kd.S_drewN | apply Kd.S_drew)); exact HO487.out) hb); replace HO490 := Aside0.mk (Kd.S_below (by (with_reducible repeat (first | apply Kd.S_alloc | apply Kd.S_drewN | apply Kd.S_drew)); exact HO490.out) hb); have BK492 := Aside0.mk (hbox); have GW492 := bG HB hg; replace HB := bS HB hb; obtain ⟨NB431_492, NB492_431⟩ := bN BK431 hg; replace BK431 := bB BK431 hb; obtain ⟨NB448_492, NB492_448⟩ := bN BK448 hg; replace BK448 := bB BK448 hb; obtain ⟨NB454_492, NB492_454⟩ := bN BK454 hg; replace BK454 := bB BK454 hb; obtain ⟨NB465_492, NB492_465⟩ := bN BK465 hg; replace BK465 := bB BK465 hb; clear hb hbox hg; obtain ⟨Ao115, co115, eo115⟩ := Kd.S_slice HO484.out; subst eo115; obtain ⟨hnb116, hnc116⟩ := nB NB492_431; obtain ⟨hnb117, hnc117⟩ := nB NB492_448; obtain ⟨hnb118, hnc118⟩ := nB NB492_454; obtain ⟨hnb119, hnc119⟩ := nB NB492_465; obtain ⟨hcz120_0, hcz120_1, hcz120_2, hfz120_0, hfz120_1, hfz120_2⟩ := bK3 (w := w114) BK492; obtain ⟨Ao121, co121, eo121⟩ := Kd.S_slice HO487.out; subst eo121; obtain ⟨Ao122, co122, eo122⟩ := Kd.S_slice HO490.out; subst eo122))
           (try simp only [Act.put, List.setIfInBounds_toArray, List.set_cons_zero, List.set_cons_succ])
           go_cut [87] (fun v87 wc => ∃ (kq : Nat) (x87_99 : Bool), v87 = .bool x87_99 ∧ Aside0 (laws_FnExactQapOf.j2 kq t475 x87_99 y475a y475b y475c = some r) ∧ Aside0 (kq ≤ kj63) ∧ Aside0 (Kd.S (own F_ 9 (Kd.slice 3 (Kd.int .i64))) 22 wc w.heap.size (fun k_ => some k_ ≠ ((.slice Ao23 t441.length co23) : Value).ownBlock ∧ some k_ ≠ ((.slice Ao24 t444.length co24) : Value).ownBlock ∧ some k_ ≠ ((.slice Ao34 t455.length co34) : Value).ownBlock ∧ some k_ ≠ ((.slice Ao39 t458.length co39) : Value).ownBlock ∧ some k_ ≠ ((.slice Ao40 t461.length co40) : Value).ownBlock ∧ some k_ ≠ ((.slice Ao115 t482.length co115) : Value).ownBlock ∧ some k_ ≠ ((.slice Ao121 t485.length co121) : Value).ownBlock ∧ some k_ ≠ ((.slice Ao122 t488.length co122) : Value).ownBlock) (.slice Ao20 t438.length co20) t438) ∧ Aside0 (Kd.S (own F_ 9 (Kd.slice 3 (Kd.int .i64))) 22 wc w.heap.size (fun k_ => some k_ ≠ ((.slice Ao20 t438.length co20) : Value).ownBlock ∧ some k_ ≠ ((.slice Ao24 t444.length co24) : Value).ownBlock ∧ some k_ ≠ ((.slice Ao34 t455.length co34) : Value).ownBlock ∧ some k_ ≠ ((.slice Ao39 t458.length co39) : Value).ownBlock ∧ some k_ ≠ ((.slice Ao40 t461.length co40) : Value).ownBlock ∧ some k_ ≠ ((.slice Ao115 t482.length co115) : Value).ownBlock ∧ some k_ ≠ ((.slice Ao121 t485.length co121) : Value).ownBlock ∧ some k_ ≠ ((.slice Ao122 t488.length co122) : Value).ownBlock) (.slice Ao23 t441.length co23) t441) ∧ Aside0 (Kd.S (own F_ 9 (Kd.slice 3 (Kd.int .i64))) 22 wc w.heap.size (fun k_ => some k_ ≠ ((.slice Ao20 t438.length co20) : Value).ownBlock ∧ some k_ ≠ ((.slice Ao23 t441.length co23) : Value).ownBlock ∧ some k_ ≠ ((.slice Ao34 t455.length co34) : Value).ownBlock ∧ some k_ ≠ ((.slice Ao39 t458.length co39) : Value).ownBlock ∧ some k_ ≠ ((.slice Ao40 t461.length co40) : Value).ownBlock ∧ some k_ ≠ ((.slice Ao115 t482.length co115) : Value).ownBlock ∧ some k_ ≠ ((.slice Ao121 t485.length co121) : Value).ownBlock ∧ some k_ ≠ ((.slice Ao122 t488.length co122) : Value).ownBlock) (.slice Ao24 t444.length co24) t444) ∧ Aside0 (Kd.S (own F_ 3 k40) 40 wc w.heap.size (fun _ => True) (.slice Ao31 t451.length co31) y473) ∧ Aside0 (Kd.S (own F_ 0 (Kd.slice 3 (Kd.int .i64))) 22 wc w.heap.size (fun k_ => some k_ ≠ ((.slice Ao20 t438.length co20) : Value).ownBlock ∧ some k_ ≠ ((.slice Ao23 t441.length co23) : Value).ownBlock ∧ some k_ ≠ ((.slice Ao24 t444.length co24) : Value).ownBlock ∧ some k_ ≠ ((.slice Ao39 t458.length co39) : Value).ownBlock ∧ some k_ ≠ ((.slice Ao40 t461.length co40) : Value).ownBlock ∧ some k_ ≠ ((.slice Ao115 t482.length co115) : Value).ownBlock ∧ some k_ ≠ ((.slice Ao121 t485.length co121) : Value).ownBlock ∧ some k_ ≠ ((.slice Ao122 t488.length co122) : Value).ownBlock) (.slice Ao34 t455.length co34) y475a) ∧ Aside0 (Kd.S (own F_ 1 (Kd.slice 3 (Kd.int .i64))) 22 wc w.heap.size (fun k_ => some k_ ≠ ((.slice Ao20 t438.length co20) : Value).ownBlock ∧ some k_ ≠ ((.slice Ao23 t441.length co23) : Value).ownBlock ∧ some k_ ≠ ((.slice Ao24 t444.length co24) : Value).ownBlock ∧ some k_ ≠ ((.slice Ao34 t455.length co34) : Value).ownBlock ∧ some k_ ≠ ((.slice Ao40 t461.length co40) : Value).ownBlock ∧ some k_ ≠ ((.slice Ao115 t482.length co115) : Value).ownBlock ∧ some k_ ≠ ((.slice Ao121 t485.length co121) : Value).ownBlock ∧ some k_ ≠ ((.slice Ao122 t488.length co122) : Value).ownBlock) (.slice Ao39 t458.length co39) y475b) ∧ Aside0 (Kd.S (own F_ 2 (Kd.slice 3 (Kd.int .i64))) 22 wc w.heap.size (fun k_ => some k_ ≠ ((.slice Ao20 t438.length co20) : Value).ownBlock ∧ some k_ ≠ ((.slice Ao23 t441.length co23) : Value).ownBlock ∧ some k_ ≠ ((.slice Ao24 t444.length co24) : Value).ownBlock ∧ some k_ ≠ ((.slice Ao34 t455.length co34) : Value).ownBlock ∧ some k_ ≠ ((.slice Ao39 t458.length co39) : Value).ownBlock ∧ some k_ ≠ ((.slice Ao115 t482.length co115) : Value).ownBlock ∧ some k_ ≠ ((.slice Ao121 t485.length co121) : Value).ownBlock ∧ some k_ ≠ ((.slice Ao122 t488.length co122) : Value).ownBlock) (.slice Ao40 t461.length co40) y475c) ∧ Aside0 (Kd.S (Kd.slice 3 (Kd.int .i64)) 22 wc w.heap.size (fun k_ => some k_ ≠ ((.slice Ao20 t438.length co20) : Value).ownBlock ∧ some k_ ≠ ((.slice Ao23 t441.length co23) : Value).ownBlock ∧ some k_ ≠ ((.slice Ao24 t444.length co24) : Value).ownBlock ∧ some k_ ≠ ((.slice Ao34 t455.length co34) : Value).ownBlock ∧ some k_ ≠ ((.slice Ao39 t458.length co39) : Value).ownBlock ∧ some k_ ≠ ((.slice Ao40 t461.length co40) : Value).ownBlock ∧ some k_ ≠ ((.slice Ao121 t485.length co121) : Value).ownBlock ∧ some k_ ≠ ((.slice Ao122 t488.length co122) : Value).ownBlock) (.slice Ao115 t482.length co115) t482) ∧ Aside0 (Kd.S (Kd.slice 3 (Kd.int .i64)) 22 wc w.heap.size (fun k_ => some k_ ≠ ((.slice Ao20 t438.length co20) : Value).ownBlock ∧ some k_ ≠ ((.slice Ao23 t441.length co23) : Value).ownBlock ∧ some k_ ≠ ((.slice Ao24 t444.length co24) : Value).ownBlock ∧ some k_ ≠ ((.slice Ao34 t455.length co34) : Value).ownBlock ∧ some k_ ≠ ((.slice Ao39 t458.length co39) : Value).ownBlock ∧ some k_ ≠ ((.slice Ao40 t461.length co40) : Value).ownBlock ∧ some k_ ≠ ((.slice Ao115 t482.length co115) : Value).ownBlock ∧ some k_ ≠ ((.slice Ao122 t488.length co122) : Value).ownBlock) (.slice Ao121 t485.length co121) t485) ∧ Aside0 (Kd.S (Kd.slice 3 (Kd.int .i64)) 22 wc w.heap.size (fun k_ => some k_ ≠ ((.slice Ao20 t438.length co20) : Value).ownBlock ∧ some k_ ≠ ((.slice Ao23 t441.length co23) : Value).ownBlock ∧ some k_ ≠ ((.slice Ao24 t444.length co24) : Value).ownBlock ∧ some k_ ≠ ((.slice Ao34 t455.length co34) : Value).ownBlock ∧ some k_ ≠ ((.slice Ao39 t458.length co39) : Value).ownBlock ∧ some k_ ≠ ((.slice Ao40 t461.length co40) : Value).ownBlock ∧ some k_ ≠ ((.slice Ao115 t482.length co115) : Value).ownBlock ∧ some k_ ≠ ((.slice Ao121 t485.length co121) : Value).ownBlock) (.slice Ao122 t488.length co122) t488) ∧ Aside0 (wc.heap[gb431]? = some (.cells #[.int .i64 a0_0, .int .i64 a0_1, (.slice A0_2 l0_2.length c0_2)] 58 (0, 0))) ∧ Aside0 (wc.heap[gb448]? = some (.cells #[(.slice Ao20 t438.length co20), (.slice Ao23 t441.length co23), (.slice Ao24 t444.length co24)] 61 (0, 0))) ∧ Aside0 (wc.heap[gb454]? = some (.cells #[.int .i64 t449, .int .i64 t450, (.slice Ao31 t451.length co31)] 32 (0, 0))) ∧ Aside0 (wc.heap[gb465]? = some (.cells #[(.slice Ao34 t455.length co34), (.slice Ao39 t458.length co39), (.slice Ao40 t461.length co40)] 61 (0, 0))) ∧ Aside0 (wc.heap[gb492]? = some (.cells #[(.slice Ao115 t482.length co115), (.slice Ao121 t485.length co121), (.slice Ao122 t488.length co122)] 61 (0, 0))) ∧ Aside0 (Below w.heap.size w wc))
           case first =>
            have H := HC100.out
            clear HC100
            replace H := Option.bind_eq_some_iff.mp H
            obtain ⟨t493, A1230, H⟩ := H
            have A123 := Aside0.mk A1230
            clear A1230
            by_cases c124 : t493 = true
            ·subst c124
             rw [if_pos rfl] at H
             have H' := Aside0.mk H
             clear H
             obtain ⟨hnb125, hnc125⟩ := nB NB492_431
             obtain ⟨hnb126, hnc126⟩ := nB NB492_448
             obtain ⟨hnb127, hnc127⟩ := nB NB492_454
             obtain ⟨hnb128, hnc128⟩ := nB NB492_465
             obtain ⟨hcz129_0, hcz129_1, hcz129_2, hfz129_0, hfz129_1, hfz129_2⟩ := bK3 (w := w114) BK492
             obtain ⟨hnb130, hnc130⟩ := nB NB448_431
             obtain ⟨hnb131, hnc131⟩ := nB NB448_454
             obtain ⟨hnb132, hnc132⟩ := nB NB448_465
             obtain ⟨hcz133_0, hcz133_1, hcz133_2, hfz133_0, hfz133_1, hfz133_2⟩ := bK3 (w := w114) BK448
             go_wp2_with (first | (refine gC (some 81) Try.func58 #[.agg #[.slice Ao115 t482.length co115, .slice Ao121 t485.length co121, .slice Ao122 t488.length co122], .agg #[.slice Ao20 t438.length co20, .slice Ao23 t441.length co23, .slice Ao24 t444.length co24]] ?_; (with_reducible refine (laws_eqQap.calls kj63 _ _ t482 _ _ t485 _ _ t488 _ _ t438 _ _ t441 _ _ t444 true _ ?side1 ?side2 ?side3 ?side4 ?side5 ?side6 ?side7 ?side8 ?side9 ?side10 ?side11 ?side12 A123.out).mono ?_); (case side1 => refine (Kd.S_reads' (e := 22) (base := w.heap.size) (ok := fun k_ => (((((((some k_ ≠ (.slice Ao121 t485.length co121 : Value).ownBlock ∧ some k_ ≠ (.slice Ao122 t488.length co122 : Value).ownBlock) ∧ some k_ ≠ (.slice Ao20 t438.length co20 : Value).ownBlock) ∧ some k_ ≠ (.slice Ao23 t441.length co23 : Value).ownBlock) ∧ some k_ ≠ (.slice Ao24 t444.length co24 : Value).ownBlock) ∧ some k_ ≠ (.slice Ao34 t455.length co34 : Value).ownBlock) ∧ some k_ ≠ (.slice Ao39 t458.length co39 : Value).ownBlock) ∧ some k_ ≠ (.slice Ao40 t461.length co40 : Value).ownBlock)) (n := t482.length) (c := co115) ?_).2.2; exact (by (with_reducible repeat (first | apply Kd.S_alloc | apply Kd.S_drewN | apply Kd.S_drew)); exact (Kd.S_mono (Kd.S_far (p := ⟨gb492, 2, none⟩) (Kd.S_far (p := ⟨gb492, 1, none⟩) (Kd.S_far (p := ⟨gb492, 0, none⟩) (Kd.S_types HO484.out BK492.out (by decide)) (fun _ hk => hk.2) (.slice Ao115 t482.length co115)) (fun _ hk => hk.2) (.slice Ao121 t485.length co121)) (fun _ hk => hk.2) (.slice Ao122 t488.length co122)) (fun _ h_ => h_.1)))); (case side2 => exact (Kd.S_reads' HO484.out).2.1); (case side3 => refine (Kd.S_reads' (e := 22) (base := w.heap.size) (ok := fun k_ => (((((((some k_ ≠ (.slice Ao115 t482.length co115 : Value).ownBlock ∧ some k_ ≠ (.slice Ao122 t488.length co122 : Value).ownBlock) ∧ some k_ ≠ (.slice Ao20 t438.length co20 : Value).ownBlock) ∧ some k_ ≠ (.slice Ao23 t441.length co23 : Value).ownBlock) ∧ some k_ ≠ (.slice Ao24 t444.length co24 : Value).ownBlock) ∧ some k_ ≠ (.slice Ao34 t455.length co34 : Value).ownBlock) ∧ some k_ ≠ (.slice Ao39 t458.length co39 : Value).ownBlock) ∧ some k_ ≠ (.slice Ao40 t461.length co40 : Value).ownBlock)) (n := t485.length) (c := co121) ?_).2.2; exact (by (with_reducible repeat (first | apply Kd.S_alloc | apply Kd.S_drewN | apply Kd.S_drew)); exact (Kd.S_mono (Kd.S_far (p := ⟨gb492, 2, none⟩) (Kd.S_far (p := ⟨gb492, 1, none⟩) (Kd.S_far (p := ⟨gb492, 0, none⟩) (Kd.S_types HO487.out BK492.out (by decide)) (fun _ hk => hk.2) (.slice Ao115 t482.length co115)) (fun _ hk => hk.2) (.slice Ao121 t485.length co121)) (fun _ hk => hk.2) (.slice Ao122 t488.length co122)) (fun _ h_ => h_.1)))); (case side4 => exact (Kd.S_reads' HO487.out).2.1); (case side5 => refine (Kd.S_reads' (e := 22) (base := w.heap.size) (ok := fun k_ => (((((((some k_ ≠ (.slice Ao115 t482.length co115 : Value).ownBlock ∧ some k_ ≠ (.slice Ao121 t485.length co121 : Value).ownBlock) ∧ some k_ ≠ (.slice Ao20 t438.length co20 : Value).ownBlock) ∧ some k_ ≠ (.slice Ao23 t441.length co23 : Value).ownBlock) ∧ some k_ ≠ (.slice Ao24 t444.length co24 : Value).ownBlock) ∧ some k_ ≠ (.slice Ao34 t455.length co34 : Value).ownBlock) ∧ some k_ ≠ (.slice Ao39 t458.length co39 : Value).ownBlock) ∧ some k_ ≠ (.slice Ao40 t461.length co40 : Value).ownBlock)) (n := t488.length) (c := co122) ?_).2.2; exact (by (with_reducible repeat (first | apply Kd.S_alloc | apply Kd.S_drewN | apply Kd.S_drew)); exact (Kd.S_mono (Kd.S_far (p := ⟨gb492, 2, none⟩) (Kd.S_far (p := ⟨gb492, 1, none⟩) (Kd.S_far (p := ⟨gb492, 0, none⟩) (Kd.S_types HO490.out BK492.out (by decide)) (fun _ hk => hk.2) (.slice Ao115 t482.length co115)) (fun _ hk => hk.2) (.slice Ao121 t485.length co121)) (fun _ hk => hk.2) (.slice Ao122 t488.length co122)) (fun _ h_ => h_.1)))); (case side6 => exact (Kd.S_reads' HO490.out).2.1); (case side7 => refine (Kd.S_reads' (e := 22) (base := w.heap.size) (ok := fun k_ => ((((some k_ ≠ (.slice Ao23 t441.length co23 : Value).ownBlock ∧ (some k_ ≠ (.slice Ao24 t444.length co24 : Value).ownBlock ∧ (some k_ ≠ (.slice Ao34 t455.length co34 : Value).ownBlock ∧ (some k_ ≠ (.slice Ao39 t458.length co39 : Value).ownBlock ∧ some k_ ≠ (.slice Ao40 t461.length co40 : Value).ownBlock)))) ∧ some k_ ≠ (.slice Ao115 t482.length co115 : Value).ownBlock) ∧ some k_ ≠ (.slice Ao121 t485.length co121 : Value).ownBlock) ∧ some k_ ≠ (.slice Ao122 t488.length co122 : Value).ownBlock)) (n := t438.length) (c := co20) ?_).2.2; exact ownD (by (with_reducible repeat (first | apply Kd.S_alloc | apply Kd.S_drewN | apply Kd.S_drew)); exact (Kd.S_mono (Kd.S_far (p := ⟨gb492, 2, none⟩) (Kd.S_far (p := ⟨gb492, 1, none⟩) (Kd.S_far (p := ⟨gb492, 0, none⟩) (Kd.S_types HO_449000.out BK492.out (ownE (by decide))) (fun _ hk => hk.2) (.slice Ao115 t482.length co115)) (fun _ hk => hk.2) (.slice Ao121 t485.length co121)) (fun _ hk => hk.2) (.slice Ao122 t488.length co122)) (fun _ h_ => h_.1)))); (case side8 => exact (Kd.S_reads' (ownD HO_449000.out)).2.1); (case side9 => refine (Kd.S_reads' (e := 22) (base := w.heap.size) (ok := fun k_ => ((((some k_ ≠ (.slice Ao20 t438.length co20 : Value).ownBlock ∧ (some k_ ≠ (.slice Ao24 t444.length co24 : Value).ownBlock ∧ (some k_ ≠ (.slice Ao34 t455.length co34 : Value).ownBlock ∧ (some k_ ≠ (.slice Ao39 t458.length co39 : Value).ownBlock ∧ some k_ ≠ (.slice Ao40 t461.length co40 : Value).ownBlock)))) ∧ some k_ ≠ (.slice Ao115 t482.length co115 : Value).ownBlock) ∧ some k_ ≠ (.slice Ao121 t485.length co121 : Value).ownBlock) ∧ some k_ ≠ (.slice Ao122 t488.length co122 : Value).ownBlock)) (n := t441.length) (c := co23) ?_).2.2; exact ownD (by (with_reducible repeat (first | apply Kd.S_alloc | apply Kd.S_drewN | apply Kd.S_drew)); exact (Kd.S_mono (Kd.S_far (p := ⟨gb492, 2, none⟩) (Kd.S_far (p := ⟨gb492, 1, none⟩) (Kd.S_far (p := ⟨gb492, 0, none⟩) (Kd.S_types HO_449001.out BK492.out (ownE (by decide))) (fun _ hk => hk.2) (.slice Ao115 t482.length co115)) (fun _ hk => hk.2) (.slice Ao121 t485.length co121)) (fun _ hk => hk.2) (.slice Ao122 t488.length co122)) (fun _ h_ => h_.1)))); (case side10 => exact (Kd.S_reads' (ownD HO_449001.out)).2.1); (case side11 => refine (Kd.S_reads' (e := 22) (base := w.heap.size) (ok := fun k_ => ((((some k_ ≠ (.slice Ao20 t438.length co20 : Value).ownBlock ∧ (some k_ ≠ (.slice Ao23 t441.length co23 : Value).ownBlock ∧ (some k_ ≠ (.slice Ao34 t455.length co34 : Value).ownBlock ∧ (some k_ ≠ (.slice Ao39 t458.length co39 : Value).ownBlock ∧ some k_ ≠ (.slice Ao40 t461.length co40 : Value).ownBlock)))) ∧ some k_ ≠ (.slice Ao115 t482.length co115 : Value).ownBlock) ∧ some k_ ≠ (.slice Ao121 t485.length co121 : Value).ownBlock) ∧ some k_ ≠ (.slice Ao122 t488.length co122 : Value).ownBlock)) (n := t444.length) (c := co24) ?_).2.2; exact ownD (by (with_reducible repeat (first | apply Kd.S_alloc | apply Kd.S_drewN | apply Kd.S_drew)); exact (Kd.S_mono (Kd.S_far (p := ⟨gb492, 2, none⟩) (Kd.S_far (p := ⟨gb492, 1, none⟩) (Kd.S_far (p := ⟨gb492, 0, none⟩) (Kd.S_types HO_449002.out BK492.out (ownE (by decide))) (fun _ hk => hk.2) (.slice Ao115 t482.length co115)) (fun _ hk => hk.2) (.slice Ao121 t485.length co121)) (fun _ hk => hk.2) (.slice Ao122 t488.length co122)) (fun _ h_ => h_.1)))); (case side12 => exact (Kd.S_reads' (ownD HO_449002.out)).2.1); rintro e w134 ⟨rfl, hb⟩; refine ⟨_, rfl, ?_⟩; replace HO_449000 := Aside0.mk (Kd.S_below (by (with_reducible repeat (first | apply Kd.S_alloc | apply Kd.S_drewN | apply Kd.S_drew)); exact (Kd.S_mono (Kd.S_far (p := ⟨gb492, 2, none⟩) (Kd.S_far (p := ⟨gb492, 1, none⟩) (Kd.S_far (p := ⟨gb492, 0, none⟩) (Kd.S_types HO_449000.out BK492.out (ownE (by decide))) (fun _ hk => hk.2) (.slice Ao115 t482.length co115)) (fun _ hk => hk.2) (.slice Ao121 t485.length co121)) (fun _ hk => hk.2) (.slice Ao122 t488.length co122)) (fun _ h_ => h_.1))) hb); replace HO_449001 := Aside0.mk (Kd.S_below (by (with_reducible repeat (first | apply Kd.S_alloc | apply Kd.S_drewN | apply Kd.S_drew)); exact (Kd.S_mono (Kd.S_far (p := ⟨gb492, 2, none⟩) (Kd.S_far (p := ⟨gb492, 1, none⟩) (Kd.S_far (p := ⟨gb492, 0, none⟩) (Kd.S_types HO_449001.out BK492.out (ownE (by decide))) (fun _ hk => hk.2) (.slice Ao115 t482.length co115)) (fun _ hk => hk.2) (.slice Ao121 t485.length co121)) (fun _ hk => hk.2) (.slice Ao122 t488.length co122)) (fun _ h_ => h_.1))) hb); replace HO_449002 := Aside0.mk (Kd.S_below (by (with_reducible repeat (first | apply Kd.S_alloc | apply Kd.S_drewN | apply Kd.S_drew)); exact (Kd.S_mono (Kd.S_far (p := ⟨gb492, 2, none⟩) (Kd.S_far (p := ⟨gb492, 1, none⟩) (Kd.S_far (p := ⟨gb492, 0, none⟩) (Kd.S_types HO_449002.out BK492.out (ownE (by decide))) (fun _ hk => hk.2) (.slice Ao115 t482.length co115)) (fun _ hk => hk.2) (.slice Ao121 t485.length co121)) (fun _ hk => hk.2) (.slice Ao122 t488.length co122)) (fun _ h_ => h_.1))) hb); replace HO_455002 := Aside0.mk (Kd.S_below (by (with_reducible repeat (first | apply Kd.S_alloc | apply Kd.S_drewN | apply Kd.S_drew)); exact (Kd.S_mono (Kd.S_far (p := ⟨gb492, 2, none⟩) (Kd.S_far (p := ⟨gb492, 1, none⟩) (Kd.S_far (p := ⟨gb492, 0, none⟩) (Kd.S_types HO_455002.out BK492.out (ownE (by decide))) (fun _ hk => hk.2) (.slice Ao115 t482.length co115)) (fun _ hk => hk.2) (.slice Ao121 t485.length co121)) (fun _ hk => hk.2) (.slice Ao122 t488.length co122)) (fun _ h_ => h_.1))) hb); replace HO_466000 := Aside0.mk (Kd.S_below (by (with_reducible repeat (first | apply Kd.S_alloc | apply Kd.S_drewN | apply Kd.S_drew)); exact (Kd.S_mono (Kd.S_far (p := ⟨gb492, 2, none⟩) (Kd.S_far (p := ⟨gb492, 1, none⟩) (Kd.S_far (p := ⟨gb492, 0, none⟩) (Kd.S_types HO_466000.out BK492.out (ownE (by decide))) (fun _ hk => hk.2) (.slice Ao115 t482.length co115)) (fun _ hk => hk.2) (.slice Ao121 t485.length co121)) (fun _ hk => hk.2) (.slice Ao122 t488.length co122)) (fun _ h_ => h_.1))) hb); replace HO_466001 := Aside0.mk (Kd.S_below (by (with_reducible repeat (first | apply Kd.S_alloc | apply Kd.S_drewN | apply Kd.S_drew)); exact (Kd.S_mono (Kd.S_far (p := ⟨gb492, 2, none⟩) (Kd.S_far (p := ⟨gb492, 1, none⟩) (Kd.S_far (p := ⟨gb492, 0, none⟩) (Kd.S_types HO_466001.out BK492.out (ownE (by decide))) (fun _ hk => hk.2) (.slice Ao115 t482.length co115)) (fun _ hk => hk.2) (.slice Ao121 t485.length co121)) (fun _ hk => hk.2) (.slice Ao122 t488.length co122)) (fun _ h_ => h_.1))) hb); replace HO_466002 := Aside0.mk (Kd.S_below (by (with_reducible repeat (first | apply Kd.S_alloc | apply Kd.S_drewN | apply Kd.S_drew)); exact (Kd.S_mono (Kd.S_far (p := ⟨gb492, 2, none⟩) (Kd.S_far (p := ⟨gb492, 1, none⟩) (Kd.S_far (p := ⟨gb492, 0, none⟩) (Kd.S_types HO_466002.out BK492.out (ownE (by decide))) (fun _ hk => hk.2) (.slice Ao115 t482.length co115)) (fun _ hk => hk.2) (.slice Ao121 t485.length co121)) (fun _ hk => hk.2) (.slice Ao122 t488.length co122)) (fun _ h_ => h_.1))) hb); replace HO481 := Aside0.mk (Kd.S_below (by (with_reducible repeat (first | apply Kd.S_alloc | apply Kd.S_drewN | apply Kd.S_drew)); exact (Kd.S_mono (Kd.S_far (p := ⟨gb492, 2, none⟩) (Kd.S_far (p := ⟨gb492, 1, none⟩) (Kd.S_far (p := ⟨gb492, 0, none⟩) (Kd.S_types HO481.out BK492.out (by decide)) (fun _ hk => hk.2) (.slice Ao115 t482.length co115)) (fun _ hk => hk.2) (.slice Ao121 t485.length co121)) (fun _ hk => hk.2) (.slice Ao122 t488.length co122)) (fun _ h_ => h_.1))) hb); replace HO484 := Aside0.mk (Kd.S_below (by (with_reducible repeat (first | apply Kd.S_alloc | apply Kd.S_drewN | apply Kd.S_drew)); exact (Kd.S_mono (Kd.S_far (p := ⟨gb492, 2, none⟩) (Kd.S_far (p := ⟨gb492, 1, none⟩) (Kd.S_far (p := ⟨gb492, 0, none⟩) (Kd.S_types HO484.out BK492.out (by decide)) (fun _ hk => hk.2) (.slice Ao115 t482.length co115)) (fun _ hk => hk.2) (.slice Ao121 t485.length co121)) (fun _ hk => hk.2) (.slice Ao122 t488.length co122)) (fun _ h_ => h_.1))) hb); replace HO487 := Aside0.mk (Kd.S_below (by (with_reducible repeat (first | apply Kd.S_alloc | apply Kd.S_drewN | apply Kd.S_drew)); exact (Kd.S_mono (Kd.S_far (p := ⟨gb492, 2, none⟩) (Kd.S_far (p := ⟨gb492, 1, none⟩) (Kd.S_far (p := ⟨gb492, 0, none⟩) (Kd.S_types HO487.out BK492.out (by decide)) (fun _ hk => hk.2) (.slice Ao115 t482.length co115)) (fun _ hk => hk.2) (.slice Ao121 t485.length co121)) (fun _ hk => hk.2) (.slice Ao122 t488.length co122)) (fun _ h_ => h_.1))) hb); replace HO490 := Aside0.mk (Kd.S_below (by (with_reducible repeat (first | apply Kd.S_alloc | apply Kd.S_drewN | apply Kd.S_drew)); exact (Kd.S_mono (Kd.S_far (p := ⟨gb492, 2, none⟩) (Kd.S_far (p := ⟨gb492, 1, none⟩) (Kd.S_far (p := ⟨gb492, 0, none⟩) (Kd.S_types HO490.out BK492.out (by decide)) (fun _ hk => hk.2) (.slice Ao115 t482.length co115)) (fun _ hk => hk.2) (.slice Ao121 t485.length co121)) (fun _ hk => hk.2) (.slice Ao122 t488.length co122)) (fun _ h_ => h_.1))) hb); replace BK431 := bB BK431 hb; replace BK448 := bB BK448 hb; replace BK454 := bB BK454 hb; replace BK465 := bB BK465 hb; replace BK492 := bV 61 #[.slice Ao115 t482.length co115, .slice Ao121 t485.length co121, .slice Ao122 t488.length co122] BK492 hb; replace HB := bS HB hb; (try clear hb)))
             go_meet
             case rel => exact ⟨_, ((t491 != t447)), rS, H', ⟨by have := HJ10.out; have := HJ63.out; first | omega | exact Nat.le_refl _⟩, ⟨by (with_reducible repeat (first | apply Kd.S_alloc | apply Kd.S_drewN | apply Kd.S_drew)); exact Kd.S_mono HO_449000.out (fun _ hk => ⟨hk.1.1.1.1, ⟨hk.1.1.1.2.1, ⟨hk.1.1.1.2.2.1, ⟨hk.1.1.1.2.2.2.1, ⟨hk.1.1.1.2.2.2.2, ⟨hk.1.1.2, ⟨hk.1.2, hk.2⟩⟩⟩⟩⟩⟩⟩)⟩, ⟨by (with_reducible repeat (first | apply Kd.S_alloc | apply Kd.S_drewN | apply Kd.S_drew)); exact Kd.S_mono HO_449001.out (fun _ hk => ⟨hk.1.1.1.1, ⟨hk.1.1.1.2.1, ⟨hk.1.1.1.2.2.1, ⟨hk.1.1.1.2.2.2.1, ⟨hk.1.1.1.2.2.2.2, ⟨hk.1.1.2, ⟨hk.1.2, hk.2⟩⟩⟩⟩⟩⟩⟩)⟩, ⟨by (with_reducible repeat (first | apply Kd.S_alloc | apply Kd.S_drewN | apply Kd.S_drew)); exact Kd.S_mono HO_449002.out (fun _ hk => ⟨hk.1.1.1.1, ⟨hk.1.1.1.2.1, ⟨hk.1.1.1.2.2.1, ⟨hk.1.1.1.2.2.2.1, ⟨hk.1.1.1.2.2.2.2, ⟨hk.1.1.2, ⟨hk.1.2, hk.2⟩⟩⟩⟩⟩⟩⟩)⟩, ⟨by (with_reducible repeat (first | apply Kd.S_alloc | apply Kd.S_drewN | apply Kd.S_drew)); exact Kd.S_mono HO_455002.out (fun _ hk => trivial)⟩, ⟨by (with_reducible repeat (first | apply Kd.S_alloc | apply Kd.S_drewN | apply Kd.S_drew)); exact Kd.S_mono HO_466000.out (fun _ hk => ⟨hk.1.1.1.1, ⟨hk.1.1.1.2.1, ⟨hk.1.1.1.2.2.1, ⟨hk.1.1.1.2.2.2.1, ⟨hk.1.1.1.2.2.2.2, ⟨hk.1.1.2, ⟨hk.1.2, hk.2⟩⟩⟩⟩⟩⟩⟩)⟩, ⟨by (with_reducible repeat (first | apply Kd.S_alloc | apply Kd.S_drewN | apply Kd.S_drew)); exact Kd.S_mono HO_466001.out (fun _ hk => ⟨hk.1.1.1.1, ⟨hk.1.1.1.2.1, ⟨hk.1.1.1.2.2.1, ⟨hk.1.1.1.2.2.2.1, ⟨hk.1.1.1.2.2.2.2, ⟨hk.1.1.2, ⟨hk.1.2, hk.2⟩⟩⟩⟩⟩⟩⟩)⟩, ⟨by (with_reducible repeat (first | apply Kd.S_alloc | apply Kd.S_drewN | apply Kd.S_drew)); exact Kd.S_mono HO_466002.out (fun _ hk => ⟨hk.1.1.1.1, ⟨hk.1.1.1.2.1, ⟨hk.1.1.1.2.2.1, ⟨hk.1.1.1.2.2.2.1, ⟨hk.1.1.1.2.2.2.2, ⟨hk.1.1.2, ⟨hk.1.2, hk.2⟩⟩⟩⟩⟩⟩⟩)⟩, ⟨by (with_reducible repeat (first | apply Kd.S_alloc | apply Kd.S_drewN | apply Kd.S_drew)); exact Kd.S_mono HO484.out (fun _ hk => ⟨hk.1.1.1.1.1.2, ⟨hk.1.1.1.1.2, ⟨hk.1.1.1.2, ⟨hk.1.1.2, ⟨hk.1.2, ⟨hk.2, ⟨hk.1.1.1.1.1.1.1, hk.1.1.1.1.1.1.2⟩⟩⟩⟩⟩⟩⟩)⟩, ⟨by (with_reducible repeat (first | apply Kd.S_alloc | apply Kd.S_drewN | apply Kd.S_drew)); exact Kd.S_mono HO487.out (fun _ hk => ⟨hk.1.1.1.1.1.2, ⟨hk.1.1.1.1.2, ⟨hk.1.1.1.2, ⟨hk.1.1.2, ⟨hk.1.2, ⟨hk.2, ⟨hk.1.1.1.1.1.1.1, hk.1.1.1.1.1.1.2⟩⟩⟩⟩⟩⟩⟩)⟩, ⟨by (with_reducible repeat (first | apply Kd.S_alloc | apply Kd.S_drewN | apply Kd.S_drew)); exact Kd.S_mono HO490.out (fun _ hk => ⟨hk.1.1.1.1.1.2, ⟨hk.1.1.1.1.2, ⟨hk.1.1.1.2, ⟨hk.1.1.2, ⟨hk.1.2, ⟨hk.2, ⟨hk.1.1.1.1.1.1.1, hk.1.1.1.1.1.1.2⟩⟩⟩⟩⟩⟩⟩)⟩, ⟨bP BK431⟩, ⟨bP BK448⟩, ⟨bP BK454⟩, ⟨bP BK465⟩, ⟨bP BK492⟩, ⟨bZ HB⟩⟩
            ·replace c124 := Bool.eq_false_iff.mpr c124
             subst c124
             rw [if_neg (show ¬ (false = true) by decide)] at H
             have H' := Aside0.mk H
             clear H
             obtain ⟨hnb135, hnc135⟩ := nB NB492_431
             obtain ⟨hnb136, hnc136⟩ := nB NB492_448
             obtain ⟨hnb137, hnc137⟩ := nB NB492_454
             obtain ⟨hnb138, hnc138⟩ := nB NB492_465
             obtain ⟨hcz139_0, hcz139_1, hcz139_2, hfz139_0, hfz139_1, hfz139_2⟩ := bK3 (w := w114) BK492
             obtain ⟨hnb140, hnc140⟩ := nB NB448_431
             obtain ⟨hnb141, hnc141⟩ := nB NB448_454
             obtain ⟨hnb142, hnc142⟩ := nB NB448_465
             obtain ⟨hcz143_0, hcz143_1, hcz143_2, hfz143_0, hfz143_1, hfz143_2⟩ := bK3 (w := w114) BK448
             go_wp2_with (first | (refine gC (some 81) Try.func58 #[.agg #[.slice Ao115 t482.length co115, .slice Ao121 t485.length co121, .slice Ao122 t488.length co122], .agg #[.slice Ao20 t438.length co20, .slice Ao23 t441.length co23, .slice Ao24 t444.length co24]] ?_; (with_reducible refine (laws_eqQap.calls kj63 _ _ t482 _ _ t485 _ _ t488 _ _ t438 _ _ t441 _ _ t444 false _ ?side1 ?side2 ?side3 ?side4 ?side5 ?side6 ?side7 ?side8 ?side9 ?side10 ?side11 ?side12 A123.out).mono ?_); (case side1 => refine (Kd.S_reads' (e := 22) (base := w.heap.size) (ok := fun k_ => (((((((some k_ ≠ (.slice Ao121 t485.length co121 : Value).ownBlock ∧ some k_ ≠ (.slice Ao122 t488.length co122 : Value).ownBlock) ∧ some k_ ≠ (.slice Ao20 t438.length co20 : Value).ownBlock) ∧ some k_ ≠ (.slice Ao23 t441.length co23 : Value).ownBlock) ∧ some k_ ≠ (.slice Ao24 t444.length co24 : Value).ownBlock) ∧ some k_ ≠ (.slice Ao34 t455.length co34 : Value).ownBlock) ∧ some k_ ≠ (.slice Ao39 t458.length co39 : Value).ownBlock) ∧ some k_ ≠ (.slice Ao40 t461.length co40 : Value).ownBlock)) (n := t482.length) (c := co115) ?_).2.2; exact (by (with_reducible repeat (first | apply Kd.S_alloc | apply Kd.S_drewN | apply Kd.S_drew)); exact (Kd.S_mono (Kd.S_far (p := ⟨gb492, 2, none⟩) (Kd.S_far (p := ⟨gb492, 1, none⟩) (Kd.S_far (p := ⟨gb492, 0, none⟩) (Kd.S_types HO484.out BK492.out (by decide)) (fun _ hk => hk.2) (.slice Ao115 t482.length co115)) (fun _ hk => hk.2) (.slice Ao121 t485.length co121)) (fun _ hk => hk.2) (.slice Ao122 t488.length co122)) (fun _ h_ => h_.1)))); (case side2 => exact (Kd.S_reads' HO484.out).2.1); (case side3 => refine (Kd.S_reads' (e := 22) (base := w.heap.size) (ok := fun k_ => (((((((some k_ ≠ (.slice Ao115 t482.length co115 : Value).ownBlock ∧ some k_ ≠ (.slice Ao122 t488.length co122 : Value).ownBlock) ∧ some k_ ≠ (.slice Ao20 t438.length co20 : Value).ownBlock) ∧ some k_ ≠ (.slice Ao23 t441.length co23 : Value).ownBlock) ∧ some k_ ≠ (.slice Ao24 t444.length co24 : Value).ownBlock) ∧ some k_ ≠ (.slice Ao34 t455.length co34 : Value).ownBlock) ∧ some k_ ≠ (.slice Ao39 t458.length co39 : Value).ownBlock) ∧ some k_ ≠ (.slice Ao40 t461.length co40 : Value).ownBlock)) (n := t485.length) (c := co121) ?_).2.2; exact (by (with_reducible repeat (first | apply Kd.S_alloc | apply Kd.S_drewN | apply Kd.S_drew)); exact (Kd.S_mono (Kd.S_far (p := ⟨gb492, 2, none⟩) (Kd.S_far (p := ⟨gb492, 1, none⟩) (Kd.S_far (p := ⟨gb492, 0, none⟩) (Kd.S_types HO487.out BK492.out (by decide)) (fun _ hk => hk.2) (.slice Ao115 t482.length co115)) (fun _ hk => hk.2) (.slice Ao121 t485.length co121)) (fun _ hk => hk.2) (.slice Ao122 t488.length co122)) (fun _ h_ => h_.1)))); (case side4 => exact (Kd.S_reads' HO487.out).2.1); (case side5 => refine (Kd.S_reads' (e := 22) (base := w.heap.size) (ok := fun k_ => (((((((some k_ ≠ (.slice Ao115 t482.length co115 : Value).ownBlock ∧ some k_ ≠ (.slice Ao121 t485.length co121 : Value).ownBlock) ∧ some k_ ≠ (.slice Ao20 t438.length co20 : Value).ownBlock) ∧ some k_ ≠ (.slice Ao23 t441.length co23 : Value).ownBlock) ∧ some k_ ≠ (.slice Ao24 t444.length co24 : Value).ownBlock) ∧ some k_ ≠ (.slice Ao34 t455.length co34 : Value).ownBlock) ∧ some k_ ≠ (.slice Ao39 t458.length co39 : Value).ownBlock) ∧ some k_ ≠ (.slice Ao40 t461.length co40 : Value).ownBlock)) (n := t488.length) (c := co122) ?_).2.2; exact (by (with_reducible repeat (first | apply Kd.S_alloc | apply Kd.S_drewN | apply Kd.S_drew)); exact (Kd.S_mono (Kd.S_far (p := ⟨gb492, 2, none⟩) (Kd.S_far (p := ⟨gb492, 1, none⟩) (Kd.S_far (p := ⟨gb492, 0, none⟩) (Kd.S_types HO490.out BK492.out (by decide)) (fun _ hk => hk.2) (.slice Ao115 t482.length co115)) (fun _ hk => hk.2) (.slice Ao121 t485.length co121)) (fun _ hk => hk.2) (.slice Ao122 t488.length co122)) (fun _ h_ => h_.1)))); (case side6 => exact (Kd.S_reads' HO490.out).2.1); (case side7 => refine (Kd.S_reads' (e := 22) (base := w.heap.size) (ok := fun k_ => ((((some k_ ≠ (.slice Ao23 t441.length co23 : Value).ownBlock ∧ (some k_ ≠ (.slice Ao24 t444.length co24 : Value).ownBlock ∧ (some k_ ≠ (.slice Ao34 t455.length co34 : Value).ownBlock ∧ (some k_ ≠ (.slice Ao39 t458.length co39 : Value).ownBlock ∧ some k_ ≠ (.slice Ao40 t461.length co40 : Value).ownBlock)))) ∧ some k_ ≠ (.slice Ao115 t482.length co115 : Value).ownBlock) ∧ some k_ ≠ (.slice Ao121 t485.length co121 : Value).ownBlock) ∧ some k_ ≠ (.slice Ao122 t488.length co122 : Value).ownBlock)) (n := t438.length) (c := co20) ?_).2.2; exact ownD (by (with_reducible repeat (first | apply Kd.S_alloc | apply Kd.S_drewN | apply Kd.S_drew)); exact (Kd.S_mono (Kd.S_far (p := ⟨gb492, 2, none⟩) (Kd.S_far (p := ⟨gb492, 1, none⟩) (Kd.S_far (p := ⟨gb492, 0, none⟩) (Kd.S_types HO_449000.out BK492.out (ownE (by decide))) (fun _ hk => hk.2) (.slice Ao115 t482.length co115)) (fun _ hk => hk.2) (.slice Ao121 t485.length co121)) (fun _ hk => hk.2) (.slice Ao122 t488.length co122)) (fun _ h_ => h_.1)))); (case side8 => exact (Kd.S_reads' (ownD HO_449000.out)).2.1); (case side9 => refine (Kd.S_reads' (e := 22) (base := w.heap.size) (ok := fun k_ => ((((some k_ ≠ (.slice Ao20 t438.length co20 : Value).ownBlock ∧ (some k_ ≠ (.slice Ao24 t444.length co24 : Value).ownBlock ∧ (some k_ ≠ (.slice Ao34 t455.length co34 : Value).ownBlock ∧ (some k_ ≠ (.slice Ao39 t458.length co39 : Value).ownBlock ∧ some k_ ≠ (.slice Ao40 t461.length co40 : Value).ownBlock)))) ∧ some k_ ≠ (.slice Ao115 t482.length co115 : Value).ownBlock) ∧ some k_ ≠ (.slice Ao121 t485.length co121 : Value).ownBlock) ∧ some k_ ≠ (.slice Ao122 t488.length co122 : Value).ownBlock)) (n := t441.length) (c := co23) ?_).2.2; exact ownD (by (with_reducible repeat (first | apply Kd.S_alloc | apply Kd.S_drewN | apply Kd.S_drew)); exact (Kd.S_mono (Kd.S_far (p := ⟨gb492, 2, none⟩) (Kd.S_far (p := ⟨gb492, 1, none⟩) (Kd.S_far (p := ⟨gb492, 0, none⟩) (Kd.S_types HO_449001.out BK492.out (ownE (by decide))) (fun _ hk => hk.2) (.slice Ao115 t482.length co115)) (fun _ hk => hk.2) (.slice Ao121 t485.length co121)) (fun _ hk => hk.2) (.slice Ao122 t488.length co122)) (fun _ h_ => h_.1)))); (case side10 => exact (Kd.S_reads' (ownD HO_449001.out)).2.1); (case side11 => refine (Kd.S_reads' (e := 22) (base := w.heap.size) (ok := fun k_ => ((((some k_ ≠ (.slice Ao20 t438.length co20 : Value).ownBlock ∧ (some k_ ≠ (.slice Ao23 t441.length co23 : Value).ownBlock ∧ (some k_ ≠ (.slice Ao34 t455.length co34 : Value).ownBlock ∧ (some k_ ≠ (.slice Ao39 t458.length co39 : Value).ownBlock ∧ some k_ ≠ (.slice Ao40 t461.length co40 : Value).ownBlock)))) ∧ some k_ ≠ (.slice Ao115 t482.length co115 : Value).ownBlock) ∧ some k_ ≠ (.slice Ao121 t485.length co121 : Value).ownBlock) ∧ some k_ ≠ (.slice Ao122 t488.length co122 : Value).ownBlock)) (n := t444.length) (c := co24) ?_).2.2; exact ownD (by (with_reducible repeat (first | apply Kd.S_alloc | apply Kd.S_drewN | apply Kd.S_drew)); exact (Kd.S_mono (Kd.S_far (p := ⟨gb492, 2, none⟩) (Kd.S_far (p := ⟨gb492, 1, none⟩) (Kd.S_far (p := ⟨gb492, 0, none⟩) (Kd.S_types HO_449002.out BK492.out (ownE (by decide))) (fun _ hk => hk.2) (.slice Ao115 t482.length co115)) (fun _ hk => hk.2) (.slice Ao121 t485.length co121)) (fun _ hk => hk.2) (.slice Ao122 t488.length co122)) (fun _ h_ => h_.1)))); (case side12 => exact (Kd.S_reads' (ownD HO_449002.out)).2.1); rintro e w144 ⟨rfl, hb⟩; refine ⟨_, rfl, ?_⟩; replace HO_449000 := Aside0.mk (Kd.S_below (by (with_reducible repeat (first | apply Kd.S_alloc | apply Kd.S_drewN | apply Kd.S_drew)); exact (Kd.S_mono (Kd.S_far (p := ⟨gb492, 2, none⟩) (Kd.S_far (p := ⟨gb492, 1, none⟩) (Kd.S_far (p := ⟨gb492, 0, none⟩) (Kd.S_types HO_449000.out BK492.out (ownE (by decide))) (fun _ hk => hk.2) (.slice Ao115 t482.length co115)) (fun _ hk => hk.2) (.slice Ao121 t485.length co121)) (fun _ hk => hk.2) (.slice Ao122 t488.length co122)) (fun _ h_ => h_.1))) hb); replace HO_449001 := Aside0.mk (Kd.S_below (by (with_reducible repeat (first | apply Kd.S_alloc | apply Kd.S_drewN | apply Kd.S_drew)); exact (Kd.S_mono (Kd.S_far (p := ⟨gb492, 2, none⟩) (Kd.S_far (p := ⟨gb492, 1, none⟩) (Kd.S_far (p := ⟨gb492, 0, none⟩) (Kd.S_types HO_449001.out BK492.out (ownE (by decide))) (fun _ hk => hk.2) (.slice Ao115 t482.length co115)) (fun _ hk => hk.2) (.slice Ao121 t485.length co121)) (fun _ hk => hk.2) (.slice Ao122 t488.length co122)) (fun _ h_ => h_.1))) hb); replace HO_449002 := Aside0.mk (Kd.S_below (by (with_reducible repeat (first | apply Kd.S_alloc | apply Kd.S_drewN | apply Kd.S_drew)); exact (Kd.S_mono (Kd.S_far (p := ⟨gb492, 2, none⟩) (Kd.S_far (p := ⟨gb492, 1, none⟩) (Kd.S_far (p := ⟨gb492, 0, none⟩) (Kd.S_types HO_449002.out BK492.out (ownE (by decide))) (fun _ hk => hk.2) (.slice Ao115 t482.length co115)) (fun _ hk => hk.2) (.slice Ao121 t485.length co121)) (fun _ hk => hk.2) (.slice Ao122 t488.length co122)) (fun _ h_ => h_.1))) hb); replace HO_455002 := Aside0.mk (Kd.S_below (by (with_reducible repeat (first | apply Kd.S_alloc | apply Kd.S_drewN | apply Kd.S_drew)); exact (Kd.S_mono (Kd.S_far (p := ⟨gb492, 2, none⟩) (Kd.S_far (p := ⟨gb492, 1, none⟩) (Kd.S_far (p := ⟨gb492, 0, none⟩) (Kd.S_types HO_455002.out BK492.out (ownE (by decide))) (fun _ hk => hk.2) (.slice Ao115 t482.length co115)) (fun _ hk => hk.2) (.slice Ao121 t485.length co121)) (fun _ hk => hk.2) (.slice Ao122 t488.length co122)) (fun _ h_ => h_.1))) hb); replace HO_466000 := Aside0.mk (Kd.S_below (by (with_reducible repeat (first | apply Kd.S_alloc | apply Kd.S_drewN | apply Kd.S_drew)); exact (Kd.S_mono (Kd.S_far (p := ⟨gb492, 2, none⟩) (Kd.S_far (p := ⟨gb492, 1, none⟩) (Kd.S_far (p := ⟨gb492, 0, none⟩) (Kd.S_types HO_466000.out BK492.out (ownE (by decide))) (fun _ hk => hk.2) (.slice Ao115 t482.length co115)) (fun _ hk => hk.2) (.slice Ao121 t485.length co121)) (fun _ hk => hk.2) (.slice Ao122 t488.length co122)) (fun _ h_ => h_.1))) hb); replace HO_466001 := Aside0.mk (Kd.S_below (by (with_reducible repeat (first | apply Kd.S_alloc | apply Kd.S_drewN | apply Kd.S_drew)); exact (Kd.S_mono (Kd.S_far (p := ⟨gb492, 2, none⟩) (Kd.S_far (p := ⟨gb492, 1, none⟩) (Kd.S_far (p := ⟨gb492, 0, none⟩) (Kd.S_types HO_466001.out BK492.out (ownE (by decide))) (fun _ hk => hk.2) (.slice Ao115 t482.length co115)) (fun _ hk => hk.2) (.slice Ao121 t485.length co121)) (fun _ hk => hk.2) (.slice Ao122 t488.length co122)) (fun _ h_ => h_.1))) hb); replace HO_466002 := Aside0.mk (Kd.S_below (by (with_reducible repeat (first | apply Kd.S_alloc | apply Kd.S_drewN | apply Kd.S_drew)); exact (Kd.S_mono (Kd.S_far (p := ⟨gb492, 2, none⟩) (Kd.S_far (p := ⟨gb492, 1, none⟩) (Kd.S_far (p := ⟨gb492, 0, none⟩) (Kd.S_types HO_466002.out BK492.out (ownE (by decide))) (fun _ hk => hk.2) (.slice Ao115 t482.length co115)) (fun _ hk => hk.2) (.slice Ao121 t485.length co121)) (fun _ hk => hk.2) (.slice Ao122 t488.length co122)) (fun _ h_ => h_.1))) hb); replace HO481 := Aside0.mk (Kd.S_below (by (with_reducible repeat (first | apply Kd.S_alloc | apply Kd.S_drewN | apply Kd.S_drew)); exact (Kd.S_mono (Kd.S_far (p := ⟨gb492, 2, none⟩) (Kd.S_far (p := ⟨gb492, 1, none⟩) (Kd.S_far (p := ⟨gb492, 0, none⟩) (Kd.S_types HO481.out BK492.out (by decide)) (fun _ hk => hk.2) (.slice Ao115 t482.length co115)) (fun _ hk => hk.2) (.slice Ao121 t485.length co121)) (fun _ hk => hk.2) (.slice Ao122 t488.length co122)) (fun _ h_ => h_.1))) hb); replace HO484 := Aside0.mk (Kd.S_below (by (with_reducible repeat (first | apply Kd.S_alloc | apply Kd.S_drewN | apply Kd.S_drew)); exact (Kd.S_mono (Kd.S_far (p := ⟨gb492, 2, none⟩) (Kd.S_far (p := ⟨gb492, 1, none⟩) (Kd.S_far (p := ⟨gb492, 0, none⟩) (Kd.S_types HO484.out BK492.out (by decide)) (fun _ hk => hk.2) (.slice Ao115 t482.length co115)) (fun _ hk => hk.2) (.slice Ao121 t485.length co121)) (fun _ hk => hk.2) (.slice Ao122 t488.length co122)) (fun _ h_ => h_.1))) hb); replace HO487 := Aside0.mk (Kd.S_below (by (with_reducible repeat (first | apply Kd.S_alloc | apply Kd.S_drewN | apply Kd.S_drew)); exact (Kd.S_mono (Kd.S_far (p := ⟨gb492, 2, none⟩) (Kd.S_far (p := ⟨gb492, 1, none⟩) (Kd.S_far (p := ⟨gb492, 0, none⟩) (Kd.S_types HO487.out BK492.out (by decide)) (fun _ hk => hk.2) (.slice Ao115 t482.length co115)) (fun _ hk => hk.2) (.slice Ao121 t485.length co121)) (fun _ hk => hk.2) (.slice Ao122 t488.length co122)) (fun _ h_ => h_.1))) hb); replace HO490 := Aside0.mk (Kd.S_below (by (with_reducible repeat (first | apply Kd.S_alloc | apply Kd.S_drewN | apply Kd.S_drew)); exact (Kd.S_mono (Kd.S_far (p := ⟨gb492, 2, none⟩) (Kd.S_far (p := ⟨gb492, 1, none⟩) (Kd.S_far (p := ⟨gb492, 0, none⟩) (Kd.S_types HO490.out BK492.out (by decide)) (fun _ hk => hk.2) (.slice Ao115 t482.length co115)) (fun _ hk => hk.2) (.slice Ao121 t485.length co121)) (fun _ hk => hk.2) (.slice Ao122 t488.length co122)) (fun _ h_ => h_.1))) hb); replace BK431 := bB BK431 hb; replace BK448 := bB BK448 hb; replace BK454 := bB BK454 hb; replace BK465 := bB BK465 hb; replace BK492 := bV 61 #[.slice Ao115 t482.length co115, .slice Ao121 t485.length co121, .slice Ao122 t488.length co122] BK492 hb; replace HB := bS HB hb; (try clear hb)))
             go_meet
             case rel => exact ⟨_, (true), rS, H', ⟨by have := HJ10.out; have := HJ63.out; first | omega | exact Nat.le_refl _⟩, ⟨by (with_reducible repeat (first | apply Kd.S_alloc | apply Kd.S_drewN | apply Kd.S_drew)); exact Kd.S_mono HO_449000.out (fun _ hk => ⟨hk.1.1.1.1, ⟨hk.1.1.1.2.1, ⟨hk.1.1.1.2.2.1, ⟨hk.1.1.1.2.2.2.1, ⟨hk.1.1.1.2.2.2.2, ⟨hk.1.1.2, ⟨hk.1.2, hk.2⟩⟩⟩⟩⟩⟩⟩)⟩, ⟨by (with_reducible repeat (first | apply Kd.S_alloc | apply Kd.S_drewN | apply Kd.S_drew)); exact Kd.S_mono HO_449001.out (fun _ hk => ⟨hk.1.1.1.1, ⟨hk.1.1.1.2.1, ⟨hk.1.1.1.2.2.1, ⟨hk.1.1.1.2.2.2.1, ⟨hk.1.1.1.2.2.2.2, ⟨hk.1.1.2, ⟨hk.1.2, hk.2⟩⟩⟩⟩⟩⟩⟩)⟩, ⟨by (with_reducible repeat (first | apply Kd.S_alloc | apply Kd.S_drewN | apply Kd.S_drew)); exact Kd.S_mono HO_449002.out (fun _ hk => ⟨hk.1.1.1.1, ⟨hk.1.1.1.2.1, ⟨hk.1.1.1.2.2.1, ⟨hk.1.1.1.2.2.2.1, ⟨hk.1.1.1.2.2.2.2, ⟨hk.1.1.2, ⟨hk.1.2, hk.2⟩⟩⟩⟩⟩⟩⟩)⟩, ⟨by (with_reducible repeat (first | apply Kd.S_alloc | apply Kd.S_drewN | apply Kd.S_drew)); exact Kd.S_mono HO_455002.out (fun _ hk => trivial)⟩, ⟨by (with_reducible repeat (first | apply Kd.S_alloc | apply Kd.S_drewN | apply Kd.S_drew)); exact Kd.S_mono HO_466000.out (fun _ hk => ⟨hk.1.1.1.1, ⟨hk.1.1.1.2.1, ⟨hk.1.1.1.2.2.1, ⟨hk.1.1.1.2.2.2.1, ⟨hk.1.1.1.2.2.2.2, ⟨hk.1.1.2, ⟨hk.1.2, hk.2⟩⟩⟩⟩⟩⟩⟩)⟩, ⟨by (with_reducible repeat (first | apply Kd.S_alloc | apply Kd.S_drewN | apply Kd.S_drew)); exact Kd.S_mono HO_466001.out (fun _ hk => ⟨hk.1.1.1.1, ⟨hk.1.1.1.2.1, ⟨hk.1.1.1.2.2.1, ⟨hk.1.1.1.2.2.2.1, ⟨hk.1.1.1.2.2.2.2, ⟨hk.1.1.2, ⟨hk.1.2, hk.2⟩⟩⟩⟩⟩⟩⟩)⟩, ⟨by (with_reducible repeat (first | apply Kd.S_alloc | apply Kd.S_drewN | apply Kd.S_drew)); exact Kd.S_mono HO_466002.out (fun _ hk => ⟨hk.1.1.1.1, ⟨hk.1.1.1.2.1, ⟨hk.1.1.1.2.2.1, ⟨hk.1.1.1.2.2.2.1, ⟨hk.1.1.1.2.2.2.2, ⟨hk.1.1.2, ⟨hk.1.2, hk.2⟩⟩⟩⟩⟩⟩⟩)⟩, ⟨by (with_reducible repeat (first | apply Kd.S_alloc | apply Kd.S_drewN | apply Kd.S_drew)); exact Kd.S_mono HO484.out (fun _ hk => ⟨hk.1.1.1.1.1.2, ⟨hk.1.1.1.1.2, ⟨hk.1.1.1.2, ⟨hk.1.1.2, ⟨hk.1.2, ⟨hk.2, ⟨hk.1.1.1.1.1.1.1, hk.1.1.1.1.1.1.2⟩⟩⟩⟩⟩⟩⟩)⟩, ⟨by (with_reducible repeat (first | apply Kd.S_alloc | apply Kd.S_drewN | apply Kd.S_drew)); exact Kd.S_mono HO487.out (fun _ hk => ⟨hk.1.1.1.1.1.2, ⟨hk.1.1.1.1.2, ⟨hk.1.1.1.2, ⟨hk.1.1.2, ⟨hk.1.2, ⟨hk.2, ⟨hk.1.1.1.1.1.1.1, hk.1.1.1.1.1.1.2⟩⟩⟩⟩⟩⟩⟩)⟩, ⟨by (with_reducible repeat (first | apply Kd.S_alloc | apply Kd.S_drewN | apply Kd.S_drew)); exact Kd.S_mono HO490.out (fun _ hk => ⟨hk.1.1.1.1.1.2, ⟨hk.1.1.1.1.2, ⟨hk.1.1.1.2, ⟨hk.1.1.2, ⟨hk.1.2, ⟨hk.2, ⟨hk.1.1.1.1.1.1.1, hk.1.1.1.1.1.1.2⟩⟩⟩⟩⟩⟩⟩)⟩, ⟨bP BK431⟩, ⟨bP BK448⟩, ⟨bP BK454⟩, ⟨bP BK465⟩, ⟨bP BK492⟩, ⟨bZ HB⟩⟩
           case rest =>
            clear HC100
            try clear c1
            try clear c2
            try clear p2
            try clear c3
            try clear c3b0
            try clear c4
            try clear c5
            try clear c6
            try clear c7
            try clear c8
            try clear c9
            try clear c10
            try clear c11
            try clear c12
            try clear c13
            try clear c14
            try clear c21
            try clear c28
            try clear c29
            try clear c35
            try clear c36
            try clear c37
            try clear c42
            try clear c43
            try clear c44
            try clear c45
            try clear c47
            try clear c48
            try clear c51
            try clear c52
            try clear c53
            try clear c54
            try clear c55
            try clear c56
            try clear c57
            try clear c58
            try clear c59
            try clear c60
            try clear c61
            try clear c62
            try clear c69
            try clear c70
            try clear c71
            try clear c74
            try clear c74b0
            try clear c76
            try clear c77
            try clear c78
            try clear c79
            try clear c81
            try clear c82
            try clear c85
            try clear c86
            try clear c87
            try clear c89
            try clear c90
            try clear c93
            try clear c96
            try clear c96b0
            try clear c97
            try clear c97b0
            try clear c97b1
            try clear c101
            try clear c102
            try clear c103
            try clear c108
            try clear c109
            try clear c116
            try clear c117
            try clear c118
            try clear c119
            try clear c124
            try clear c125
            try clear c126
            try clear c127
            try clear c128
            try clear c130
            try clear c131
            try clear c132
            try clear c135
            try clear c136
            try clear c137
            try clear c138
            try clear c140
            try clear c141
            try clear c142
            try clear hcz104_0
            try clear hcz104_1
            try clear hcz104_2
            try clear hcz106_0
            try clear hcz106_1
            try clear hcz106_2
            try clear hcz110_0
            try clear hcz110_1
            try clear hcz110_2
            try clear hcz120_0
            try clear hcz120_1
            try clear hcz120_2
            try clear hcz129_0
            try clear hcz129_1
            try clear hcz129_2
            try clear hcz133_0
            try clear hcz133_1
            try clear hcz133_2
            try clear hcz139_0
            try clear hcz139_1
            try clear hcz139_2
            try clear hcz13_0
            try clear hcz13_1
            try clear hcz13_2
            try clear hcz143_0
            try clear hcz143_1
            try clear hcz143_2
            try clear hcz15_0
            try clear hcz15_1
            try clear hcz15_2
            try clear hcz22_0
            try clear hcz22_1
            try clear hcz22_2
            try clear hcz25_0
            try clear hcz25_1
            try clear hcz25_2
            try clear hcz30_0
            try clear hcz30_1
            try clear hcz30_2
            try clear hcz38_0
            try clear hcz38_1
            try clear hcz38_2
            try clear hcz46_0
            try clear hcz46_1
            try clear hcz46_2
            try clear hcz49_0
            try clear hcz49_1
            try clear hcz49_2
            try clear hcz54_0
            try clear hcz54_1
            try clear hcz54_2
            try clear hcz57_0
            try clear hcz57_1
            try clear hcz57_2
            try clear hcz5_0
            try clear hcz5_1
            try clear hcz5_2
            try clear hcz72_0
            try clear hcz72_1
            try clear hcz72_2
            try clear hcz80_0
            try clear hcz80_1
            try clear hcz80_2
            try clear hcz83_0
            try clear hcz83_1
            try clear hcz83_2
            try clear hcz88_0
            try clear hcz88_1
            try clear hcz88_2
            try clear hcz91_0
            try clear hcz91_1
            try clear hcz91_2
            try clear hfz104_0
            try clear hfz104_1
            try clear hfz104_2
            try clear hfz106_0
            try clear hfz106_1
            try clear hfz106_2
            try clear hfz110_0
            try clear hfz110_1
            try clear hfz110_2
            try clear hfz120_0
            try clear hfz120_1
            try clear hfz120_2
            try clear hfz129_0
            try clear hfz129_1
            try clear hfz129_2
            try clear hfz133_0
            try clear hfz133_1
            try clear hfz133_2
            try clear hfz139_0
            try clear hfz139_1
            try clear hfz139_2
            try clear hfz13_0
            try clear hfz13_1
            try clear hfz13_2
            try clear hfz143_0
            try clear hfz143_1
            try clear hfz143_2
            try clear hfz15_0
            try clear hfz15_1
            try clear hfz15_2
            try clear hfz22_0
            try clear hfz22_1
            try clear hfz22_2
            try clear hfz25_0
            try clear hfz25_1
            try clear hfz25_2
            try clear hfz30_0
            try clear hfz30_1
            try clear hfz30_2
            try clear hfz38_0
            try clear hfz38_1
            try clear hfz38_2
            try clear hfz46_0
            try clear hfz46_1
            try clear hfz46_2
            try clear hfz49_0
            try clear hfz49_1
            try clear hfz49_2
            try clear hfz54_0
            try clear hfz54_1
            try clear hfz54_2
            try clear hfz57_0
            try clear hfz57_1
            try clear hfz57_2
            try clear hfz5_0
            try clear hfz5_1
            try clear hfz5_2
            try clear hfz72_0
            try clear hfz72_1
            try clear hfz72_2
            try clear hfz80_0
            try clear hfz80_1
            try clear hfz80_2
            try clear hfz83_0
            try clear hfz83_1
            try clear hfz83_2
            try clear hfz88_0
            try clear hfz88_1
            try clear hfz88_2
            try clear hfz91_0
            try clear hfz91_1
            try clear hfz91_2
            try clear p2
            obtain ⟨kq, x87_99, rfl, HA, HJ99, HO_449000, HO_449001, HO_449002, HO_455002, HO_466000, HO_466001, HO_466002, HO_493000, HO_493001, HO_493002, BK431, BK448, BK454, BK465, BK492, HB⟩ := hcut
            cases kq with
            | zero => exact absurd HA.out (by simp [laws_FnExactQapOf.j2])
            | succ kj99 =>
             have H := HA.out
             clear HA
             simp only [laws_FnExactQapOf.j2] at H
             by_cases c145 : x87_99 = true
             ·subst c145
              rw [if_pos rfl] at H
              exact absurd (Option.some.inj H) (by rw [htrue.out]; exact Bool.false_ne_true)
             ·replace c145 := Bool.eq_false_iff.mpr c145
              subst c145
              rw [if_neg (show ¬ (false = true) by decide)] at H
              replace H := Option.bind_eq_some_iff.mp H
              obtain ⟨t494, A1460, H⟩ := H
              have A146 := Aside0.mk A1460
              clear A1460
              by_cases c147 : t494 < 0
              ·rw [if_pos c147] at H
               have c147b0 := decide_eq_true c147
               clear c147
               exact absurd (Option.some.inj H) (by rw [htrue.out]; exact Bool.false_ne_true)
              ·rw [if_neg c147] at H
               have c147b0 := decide_eq_false c147
               clear c147
               by_cases c148 : t494 = t475
               ·rw [if_pos c148] at H
                have c148b0 : (t494 == t475) = true := beq_iff_eq.mpr c148
                have c148b1 : (t494 != t475) = false := bne_eq_false_iff_eq.mpr c148
                clear c148
                obtain rfl := Option.some.inj H
                obtain ⟨hnb149, hnc149⟩ := nB NB465_431
                obtain ⟨hnb150, hnc150⟩ := nB NB465_448
                obtain ⟨hnb151, hnc151⟩ := nB NB465_454
                obtain ⟨hnb152, hnc152⟩ := nB NB465_492
                obtain ⟨hcz153_0, hcz153_1, hcz153_2, hfz153_0, hfz153_1, hfz153_2⟩ := bK3 (w := wc) BK465
                go_wp2_with (first | (refine gC (some 90) Try.func62 #[.agg #[.slice Ao34 t455.length co34, .slice Ao39 t458.length co39, .slice Ao40 t461.length co40], .int .i64 1] ?_; (refine (heldQapN kj99 _ _ y475a _ _ y475b _ _ y475c 1 t494 _ t455.length t458.length t461.length (Kd.S_reads' (ownD HO_466000.out)).1.symm (Kd.S_reads' (ownD HO_466001.out)).1.symm (Kd.S_reads' (ownD HO_466002.out)).1.symm ?side1 ?side2 ?side3 ?side4 ?side5 ?side6 A146.out).mono ?_); (case side1 => exact cP ((Kd.S_reads' (ownD HO_466000.out)).2.2)); (case side2 => exact (Kd.S_reads' (ownD HO_466000.out)).2.1); (case side3 => exact cP ((Kd.S_reads' (ownD HO_466001.out)).2.2)); (case side4 => exact (Kd.S_reads' (ownD HO_466001.out)).2.1); (case side5 => exact cP ((Kd.S_reads' (ownD HO_466002.out)).2.2)); (case side6 => exact (Kd.S_reads' (ownD HO_466002.out)).2.1); rintro e w154 ⟨rfl, hb⟩; refine ⟨_, rfl, ?_⟩; replace HO_449000 := Aside0.mk (Kd.S_below (by (with_reducible repeat (first | apply Kd.S_alloc | apply Kd.S_drewN | apply Kd.S_drew)); exact HO_449000.out) hb); replace HO_449001 := Aside0.mk (Kd.S_below (by (with_reducible repeat (first | apply Kd.S_alloc | apply Kd.S_drewN | apply Kd.S_drew)); exact HO_449001.out) hb); replace HO_449002 := Aside0.mk (Kd.S_below (by (with_reducible repeat (first | apply Kd.S_alloc | apply Kd.S_drewN | apply Kd.S_drew)); exact HO_449002.out) hb); replace HO_455002 := Aside0.mk (Kd.S_below (by (with_reducible repeat (first | apply Kd.S_alloc | apply Kd.S_drewN | apply Kd.S_drew)); exact HO_455002.out) hb); replace HO_466000 := Aside0.mk (Kd.S_below (by (with_reducible repeat (first | apply Kd.S_alloc | apply Kd.S_drewN | apply Kd.S_drew)); exact HO_466000.out) hb); replace HO_466001 := Aside0.mk (Kd.S_below (by (with_reducible repeat (first | apply Kd.S_alloc | apply Kd.S_drewN | apply Kd.S_drew)); exact HO_466001.out) hb); replace HO_466002 := Aside0.mk (Kd.S_below (by (with_reducible repeat (first | apply Kd.S_alloc | apply Kd.S_drewN | apply Kd.S_drew)); exact HO_466002.out) hb); replace HO_493000 := Aside0.mk (Kd.S_below (by (with_reducible repeat (first | apply Kd.S_alloc | apply Kd.S_drewN | apply Kd.S_drew)); exact HO_493000.out) hb); replace HO_493001 := Aside0.mk (Kd.S_below (by (with_reducible repeat (first | apply Kd.S_alloc | apply Kd.S_drewN | apply Kd.S_drew)); exact HO_493001.out) hb); replace HO_493002 := Aside0.mk (Kd.S_below (by (with_reducible repeat (first | apply Kd.S_alloc | apply Kd.S_drewN | apply Kd.S_drew)); exact HO_493002.out) hb); replace BK431 := bB BK431 hb; replace BK448 := bB BK448 hb; replace BK454 := bB BK454 hb; replace BK465 := bB BK465 hb; replace BK492 := bB BK492 hb; replace HB := bS HB hb; (try clear hb)))
                go_ret
                exact ⟨rR, bZ HB⟩
               ·rw [if_neg c148] at H
                have c148b0 : (t494 == t475) = false := beq_eq_false_iff_ne.mpr c148
                have c148b1 : (t494 != t475) = true := bne_iff_ne.mpr c148
                exact absurd (Option.some.inj H) (by rw [htrue.out]; exact Bool.false_ne_true)
          ·rw [if_neg c97] at H
           have c97b0 : (t476 == t475) = false := beq_eq_false_iff_ne.mpr c97
           have c97b1 : (t476 != t475) = true := bne_iff_ne.mpr c97
           exact absurd (Option.some.inj H) (by rw [htrue.out]; exact Bool.false_ne_true)
     ·replace c62 := Bool.eq_false_iff.mpr c62
      subst c62
      rw [if_neg (show ¬ (false = true) by decide)] at H
      exact absurd (Option.some.inj H) (by rw [htrue.out]; exact Bool.false_ne_true)

/-- THE ONE PURE STATEMENT of laws_FnExactQapOf. -/
def laws_FnExactQapOf.Pure : Prop := ∀ (a0_0 : Int) (a0_1 : Int) (l0_2 : List (S92)), (Lit.int .i64 a0_0).wf = true → (Lit.int .i64 a0_1).wf = true → (l0_2.length ≤ 9223372036854775807 ∧ ∀ y1 ∈ l0_2, ((y1.f0.length ≤ 9223372036854775807 ∧ ∀ y2 ∈ y1.f0, (Lit.int .i64 y2).wf = true) ∧ (y1.f1.length ≤ 9223372036854775807 ∧ ∀ y2 ∈ y1.f1, (Lit.int .i64 y2).wf = true) ∧ (y1.f2.length ≤ 9223372036854775807 ∧ ∀ y2 ∈ y1.f2, (Lit.int .i64 y2).wf = true))) → ∃ k, laws_FnExactQapOf.f k a0_0 a0_1 l0_2 = some true

end Go.Proofs.Ytcnejiflpioaiaa.Pf
end
section
/- What is proved here: what the laws' own helpers over lists of whole numbers answer (equal lists are equal, a marked list holds its marks, a copy is the list). No conditions but that a list is no longer than a Go slice can be. -/
set_option linter.unusedVariables false
set_option linter.unusedSimpArgs false
namespace Go.Proofs.Ytcnejiflpioaiaa.Ints
open Go.RowKit Go.Proofs.Ytcnejiflpioaiaa.Pf Go.Proofs.YtcnejiflpioaiaaW.PrintWords

theorem wrap_in {i : Int} (h0 : -9223372036854775808 ≤ i) (h : i ≤ 9223372036854775807) : wrap64 i = i := by
  unfold wrap64; omega

theorem eqIntS_l0 (xs : List Int) (hn : xs.length ≤ 9223372036854775807) (d : Nat) : ∀ (i : Int) (k : Nat), 0 ≤ i → (xs.length : Int) - i = d → d < k → laws_eqIntS.l0 k xs xs i = some true := by
  induction d with
  | zero =>
    intro i k h0 hd hk
    obtain ⟨k, rfl⟩ : ∃ m, k = m + 1 := ⟨k - 1, by omega⟩
    simp only [laws_eqIntS.l0]
    rw [if_neg (by omega)]
  | succ d ih =>
    intro i k h0 hd hk
    obtain ⟨k, rfl⟩ : ∃ m, k = m + 1 := ⟨k - 1, by omega⟩
    simp only [laws_eqIntS.l0]
    rw [if_pos (by omega), if_pos h0, if_pos (by omega), wrap_in (by omega) (by omega), if_pos trivial]
    exact ih (i + 1) k (by omega) (by omega) (by omega)

theorem eqIntS_same (xs : List Int) (hn : xs.length ≤ 9223372036854775807) (k : Nat) (hk : xs.length < k) : laws_eqIntS.f k xs xs = some true := by
  unfold laws_eqIntS.f
  rw [if_pos rfl]
  exact eqIntS_l0 xs hn xs.length 0 k (by omega) (by omega) hk

def marks (m : Int) (n : Nat) : List Int := (List.range n).map fun j : Nat => m + (j : Int)
theorem marks_length (m : Int) (n : Nat) : (marks m n).length = n := by simp [marks]
theorem marks_succ (m : Int) (n : Nat) : marks m (n + 1) = marks m n ++ [m + (n : Int)] := by simp [marks, List.range_succ]
theorem marks_get (m : Int) (n i : Nat) (h : i < n) : rd (marks m n) (i : Int) = m + (i : Int) := by
  unfold rd
  rw [Int.toNat_natCast, List.getD_eq_getElem?_getD, List.getElem?_eq_getElem (by rw [marks_length]; exact h)]
  simp [marks]

theorem markIntS_l0 (m : Int) (hm : 0 ≤ m) (hm2 : m ≤ 4611686018427387903) (ys : List Int) : ∀ (i k : Nat), i + ys.length ≤ 4611686018427387904 → ys.length < k →
    laws_markIntS.l0 k (marks m i ++ ys) (m + (i : Int)) (i : Int) = some (m + ((i + ys.length : Nat) : Int), marks m (i + ys.length)) := by
  induction ys with
  | nil =>
    intro i k hi hk
    obtain ⟨k, rfl⟩ : ∃ m, k = m + 1 := ⟨k - 1, by omega⟩
    simp only [laws_markIntS.l0]
    rw [if_neg (by simp [marks_length])]
    simp
  | cons y ys ih =>
    intro i k hi hk
    simp only [List.length_cons] at hi hk
    obtain ⟨k, rfl⟩ : ∃ m, k = m + 1 := ⟨k - 1, by omega⟩
    simp only [laws_markIntS.l0]
    rw [if_pos (by simp [marks_length]; omega), if_pos (by omega), Int.toNat_natCast, wrap_in (by omega) (by omega), wrap_in (by omega) (by omega)]
    have hs : (marks m i ++ y :: ys).set i (m + (i : Int)) = marks m (i + 1) ++ ys := by
      rw [List.set_append_right _ _ (by simp [marks_length])]
      simp [marks_length, marks_succ]
    rw [hs]
    have h := ih (i + 1) k (by omega) (by omega)
    rw [show m + (i : Int) + 1 = m + ((i + 1 : Nat) : Int) by omega, show (i : Int) + 1 = ((i + 1 : Nat) : Int) by omega, h]
    simp only [List.length_cons, Option.some.injEq, Prod.mk.injEq]
    rw [show i + 1 + ys.length = i + (ys.length + 1) by omega]
    exact ⟨rfl, rfl⟩

theorem markIntS_f (m : Int) (hm : 0 ≤ m) (hm2 : m ≤ 4611686018427387903) (ys : List Int) (hn : ys.length ≤ 4611686018427387904) (k : Nat) (hk : ys.length < k) :
    laws_markIntS.f k ys m = some (m + (ys.length : Int), marks m ys.length) := by
  unfold laws_markIntS.f
  have h := markIntS_l0 m hm hm2 ys 0 k (by omega) hk
  simpa [marks] using h

theorem heldIntS_l0 (m : Int) (hm : 0 ≤ m) (hm2 : m ≤ 4611686018427387903) (n : Nat) (hn : n ≤ 4611686018427387904) (d : Nat) : ∀ (i k : Nat), i + d = n → d < k →
    laws_heldIntS.l0 k (marks m n) (m + (i : Int)) (i : Int) = some (m + (n : Int)) := by
  induction d with
  | zero =>
    intro i k hi hk
    obtain ⟨k, rfl⟩ : ∃ m, k = m + 1 := ⟨k - 1, by omega⟩
    simp only [laws_heldIntS.l0]
    rw [if_neg (by rw [marks_length]; omega)]
    rw [show i = n by omega]
  | succ d ih =>
    intro i k hi hk
    obtain ⟨k, rfl⟩ : ∃ m, k = m + 1 := ⟨k - 1, by omega⟩
    simp only [laws_heldIntS.l0]
    rw [if_pos (by rw [marks_length]; omega), if_pos (by omega), if_pos (marks_get m n i (by omega)), wrap_in (by omega) (by omega), wrap_in (by omega) (by omega)]
    have h := ih (i + 1) k (by omega) (by omega)
    rw [show m + (i : Int) + 1 = m + ((i + 1 : Nat) : Int) by omega, show (i : Int) + 1 = ((i + 1 : Nat) : Int) by omega, h]

theorem heldIntS_f (m : Int) (hm : 0 ≤ m) (hm2 : m ≤ 4611686018427387903) (n : Nat) (hn : n ≤ 4611686018427387904) (k : Nat) (hk : n < k) :
    laws_heldIntS.f k (marks m n) m = some (m + (n : Int)) := by
  unfold laws_heldIntS.f
  have h := heldIntS_l0 m hm hm2 n hn n 0 k (by omega) hk
  simpa using h
theorem toIntS_l0 (xs : List Int) (hn : xs.length ≤ 9223372036854775807) (d : Nat) : ∀ (i k : Nat), i + d = xs.length → d < k →
    laws_toIntS.l0 k xs (xs.take i ++ List.replicate d 0) (i : Int) = some xs := by
  induction d with
  | zero =>
    intro i k hi hk
    obtain ⟨k, rfl⟩ : ∃ m, k = m + 1 := ⟨k - 1, by omega⟩
    simp only [laws_toIntS.l0]
    rw [if_neg (by omega)]
    rw [List.take_of_length_le (by omega)]
    simp
  | succ d ih =>
    intro i k hi hk
    obtain ⟨k, rfl⟩ : ∃ m, k = m + 1 := ⟨k - 1, by omega⟩
    simp only [laws_toIntS.l0]
    rw [if_pos (by omega), if_pos (by omega), if_pos (by simp; omega), Int.toNat_natCast, wrap_in (by omega) (by omega)]
    have hs : (xs.take i ++ List.replicate (d + 1) 0).set i (rd xs (i : Int)) = xs.take (i + 1) ++ List.replicate d 0 := by
      rw [List.set_append_right _ _ (by simp; omega)]
      have h1 : i < xs.length := by omega
      rw [List.take_succ_eq_append_getElem h1, List.length_take, Nat.min_eq_left (by omega), Nat.sub_self, List.replicate_succ, List.set_cons_zero]
      unfold rd
      rw [Int.toNat_natCast, List.getD_eq_getElem?_getD, List.getElem?_eq_getElem h1, Option.getD_some, List.append_assoc, List.singleton_append]
    rw [hs, show (i : Int) + 1 = ((i + 1 : Nat) : Int) by omega]
    exact ih (i + 1) k (by omega) (by omega)

theorem toIntS_f (xs : List Int) (hn : xs.length ≤ 35184372088832) (k : Nat) (hk : xs.length < k) : laws_toIntS.f k xs = some xs := by
  unfold laws_toIntS.f
  rw [if_pos (by omega), Int.toNat_natCast, if_pos hn]
  have h := toIntS_l0 xs (by omega) xs.length 0 k (by omega) hk
  simpa using h
end Go.Proofs.Ytcnejiflpioaiaa.Ints
end
section
/- What is proved here: what scalars and PolyAt and PolyTrim answer, of the program and of the reference alike, as plain functions on lists. No conditions but that a list fits into memory. -/
set_option linter.unusedVariables false
set_option linter.unusedSimpArgs false
namespace Go.Proofs.Ytcnejiflpioaiaa.Poly
open Go.RowKit Go.Proofs.Ytcnejiflpioaiaa.Pf Go.Proofs.YtcnejiflpioaiaaW.PrintWords Go.Proofs.Ytcnejiflpioaiaa.Ints

theorem tmod_two (n : Int) (m : Int) (hm : 0 < m) : Int.tmod n m = n % m ∨ (Int.tmod n m = n % m - m ∧ n % m ≠ 0) := by
  rw [Int.tmod_eq_emod]
  split
  · left; omega
  · rename_i h
    right
    refine ⟨by omega, fun e => h (Or.inr (Int.dvd_of_emod_eq_zero e))⟩

theorem Ev.one {α : Type} {g : Nat → Option α} {r : α} (h : ∀ k, g (k + 1) = some r) : Ev g r :=
  ⟨1, fun k hk => by obtain ⟨k, rfl⟩ : ∃ m, k = m + 1 := ⟨k - 1, by omega⟩; exact h k⟩

theorem mul_bound (a b : Int) : 0 ≤ (a % 1009) * (b % 1009) ∧ (a % 1009) * (b % 1009) ≤ 1016064 := by
  have h1 : 0 ≤ a % 1009 := Int.emod_nonneg _ (by decide)
  have h2 : 0 ≤ b % 1009 := Int.emod_nonneg _ (by decide)
  have h3 : a % 1009 ≤ 1008 := by omega
  have h4 : b % 1009 ≤ 1008 := by omega
  refine ⟨Int.mul_nonneg h1 h2, ?_⟩
  have := Int.mul_le_mul h3 h4 h2 (by decide)
  omega

theorem rd_nat (xs : List Int) (n : Nat) (h : n < xs.length) : rd xs (n : Int) = xs[n] := by
  unfold rd
  rw [Int.toNat_natCast, List.getD_eq_getElem?_getD, List.getElem?_eq_getElem h, Option.getD_some]

/-- the value of a polynomial, from the last number on -/
def pat (xs : List Int) (x : Int) : Int := xs.foldr (fun c acc => (acc * x + c) % 1009) 0
/-- without noughts at its end -/
def cut (xs : List Int) : List Int := (xs.reverse.dropWhile (fun c => decide (c = 0))).reverse
def trim (xs : List Int) : List Int := cut (xs.map (· % 1009))
theorem cut_nil : cut [] = [] := rfl
theorem cut_zero (xs : List Int) : cut (xs ++ [0]) = cut xs := by simp [cut]
theorem cut_other (xs : List Int) (c : Int) (h : c ≠ 0) : cut (xs ++ [c]) = xs ++ [c] := by simp [cut, h]
theorem cut_length (xs : List Int) : (cut xs).length ≤ xs.length := by
  unfold cut
  rw [List.length_reverse]
  have := (List.dropWhile_suffix (fun c : Int => decide (c = 0)) (l := xs.reverse)).length_le
  simpa using this
theorem trim_length (xs : List Int) : (trim xs).length ≤ xs.length := by
  have := cut_length (xs.map (· % 1009))
  simpa [trim] using this

theorem impl_ScOf_eq (n : Int) : impl_ScOf.f n = some (n % 1009) := by
  unfold impl_ScOf.f impl_remainder.f
  rw [if_neg (by decide)]
  rcases tmod_two n 1009 (by decide) with h | ⟨h, h2⟩
  · rw [h, if_neg (by omega)]; rfl
  · rw [h, if_pos (by omega), wrap_in (by omega) (by omega)]
    simp
theorem impl_ScAdd_eq (a b : Int) : impl_ScAdd.f a b = some ((a + b) % 1009) := by
  simp only [impl_ScAdd.f, impl_ScOf_eq, Option.bind_some]
  rw [wrap_in (by omega) (by omega)]
  simp only [Option.some.injEq]
  omega
theorem impl_ScMul_eq (a b : Int) : impl_ScMul.f a b = some ((a * b) % 1009) := by
  have h := mul_bound a b
  simp only [impl_ScMul.f, impl_ScOf_eq, Option.bind_some]
  rw [wrap_in (by omega) (by omega), ← Int.mul_emod]


theorem impl_PolyTrim_l1 : ∀ (n : Nat) (xs : List Int), xs.length = n → n ≤ 9223372036854775807 → Ev (fun k => impl_PolyTrim.l1 k xs) (cut xs)
  | 0, xs, h, _ => Ev.one fun k => by
    obtain rfl : xs = [] := List.eq_nil_of_length_eq_zero h
    simp only [impl_PolyTrim.l1]
    rw [if_neg (by simp)]
    rfl
  | n + 1, xs, h, hn => by
    obtain ⟨ys, c, rfl⟩ : ∃ ys c, xs = ys ++ [c] := ⟨xs.dropLast, xs.getLast (by intro e; simp [e] at h), (List.dropLast_concat_getLast _).symm⟩
    rw [List.length_append, List.length_singleton] at h
    have hy : ys.length = n := by omega
    have hr : rd (ys ++ [c]) (n : Int) = c := by rw [rd_nat _ n (by simp <;> omega)]; simp [← hy]
    have hw : wrap64 ((((ys ++ [c]).length : Nat) : Int) - 1) = (n : Int) := by rw [wrap_in (by simp <;> omega) (by simp <;> omega)]; simp; omega
    by_cases hc : c = 0
    · subst hc
      rw [cut_zero]
      refine Ev.step (fun k => ?_) (impl_PolyTrim_l1 n ys hy (by omega))
      simp only [impl_PolyTrim.l1]
      rw [hw, if_pos (by simp <;> omega), if_pos (by omega), if_pos (by simp <;> omega), hr, if_pos rfl, if_pos (by simp <;> omega), Int.toNat_natCast, ← hy, List.take_left]
    · rw [cut_other ys c hc]
      refine Ev.one fun k => ?_
      simp only [impl_PolyTrim.l1]
      rw [hw, if_pos (by simp <;> omega), if_pos (by omega), if_pos (by simp <;> omega), hr, if_neg hc]

theorem impl_PolyTrim_l0 (xs : List Int) (hl : xs.length ≤ 17592186044416) (d : Nat) : ∀ i, i + d = xs.length → Ev (fun k => impl_PolyTrim.l0 k ((xs.take i).map (· % 1009)) xs (xs.length : Int) (i : Int)) (trim xs) := by
  induction d with
  | zero =>
    intro i hi
    refine Ev.step (fun k => ?_) (impl_PolyTrim_l1 _ (xs.map (· % 1009)) rfl (by simp <;> omega))
    simp only [impl_PolyTrim.l0]
    rw [if_neg (by omega), List.take_of_length_le (by omega)]
  | succ d ih =>
    intro i hi
    have h1 : i < xs.length := by omega
    refine Ev.step (fun k => ?_) (ih (i + 1) (by omega))
    simp only [impl_PolyTrim.l0]
    rw [if_pos (by omega), if_pos (by omega), if_pos (by omega), impl_ScOf_eq, Option.bind_some, if_pos (by simp <;> omega), wrap_in (by omega) (by omega), rd_nat xs i h1, List.take_succ_eq_append_getElem h1, List.map_append]
    rfl
theorem impl_PolyTrim_ev (xs : List Int) (hl : xs.length ≤ 17592186044416) : Ev (fun k => impl_PolyTrim.f k xs) (trim xs) := impl_PolyTrim_l0 xs hl xs.length 0 (by omega)

theorem spec_ScOf_eq (n : Int) : spec_ScOf.f n = some (n % 1009) := by
  unfold spec_ScOf.f
  rcases tmod_two n 1009 (by decide) with h | ⟨h, h2⟩
  · rw [h, if_neg (by omega)]
  · rw [h, if_pos (by omega), wrap_in (by omega) (by omega)]
    simp
theorem spec_ScAdd_eq (a b : Int) : spec_ScAdd.f a b = some ((a + b) % 1009) := by
  simp only [spec_ScAdd.f, spec_ScOf_eq, Option.bind_some]
  rw [wrap_in (by omega) (by omega)]
  simp only [Option.some.injEq]
  omega
theorem spec_ScMul_eq (a b : Int) : spec_ScMul.f a b = some ((a * b) % 1009) := by
  have h := mul_bound a b
  simp only [spec_ScMul.f, spec_ScOf_eq, Option.bind_some]
  rw [wrap_in (by omega) (by omega), ← Int.mul_emod]


theorem spec_PolyTrim_l1 : ∀ (n : Nat) (xs : List Int), xs.length = n → n ≤ 9223372036854775807 → Ev (fun k => spec_PolyTrim.l1 k xs) (cut xs)
  | 0, xs, h, _ => Ev.one fun k => by
    obtain rfl : xs = [] := List.eq_nil_of_length_eq_zero h
    simp only [spec_PolyTrim.l1]
    rw [if_neg (by simp)]
    rfl
  | n + 1, xs, h, hn => by
    obtain ⟨ys, c, rfl⟩ : ∃ ys c, xs = ys ++ [c] := ⟨xs.dropLast, xs.getLast (by intro e; simp [e] at h), (List.dropLast_concat_getLast _).symm⟩
    rw [List.length_append, List.length_singleton] at h
    have hy : ys.length = n := by omega
    have hr : rd (ys ++ [c]) (n : Int) = c := by rw [rd_nat _ n (by simp <;> omega)]; simp [← hy]
    have hw : wrap64 ((((ys ++ [c]).length : Nat) : Int) - 1) = (n : Int) := by rw [wrap_in (by simp <;> omega) (by simp <;> omega)]; simp; omega
    by_cases hc : c = 0
    · subst hc
      rw [cut_zero]
      refine Ev.step (fun k => ?_) (spec_PolyTrim_l1 n ys hy (by omega))
      simp only [spec_PolyTrim.l1]
      rw [hw, if_pos (by simp <;> omega), if_pos (by omega), if_pos (by simp <;> omega), hr, if_pos rfl, if_pos (by simp <;> omega), Int.toNat_natCast, ← hy, List.take_left]
    · rw [cut_other ys c hc]
      refine Ev.one fun k => ?_
      simp only [spec_PolyTrim.l1]
      rw [hw, if_pos (by simp <;> omega), if_pos (by omega), if_pos (by simp <;> omega), hr, if_neg hc]

theorem spec_PolyTrim_l0 (xs : List Int) (hl : xs.length ≤ 17592186044416) (d : Nat) : ∀ i, i + d = xs.length → Ev (fun k => spec_PolyTrim.l0 k xs ((xs.take i).map (· % 1009)) (i : Int)) (trim xs) := by
  induction d with
  | zero =>
    intro i hi
    refine Ev.step (fun k => ?_) (spec_PolyTrim_l1 _ (xs.map (· % 1009)) rfl (by simp <;> omega))
    simp only [spec_PolyTrim.l0]
    rw [if_neg (by omega), List.take_of_length_le (by omega)]
  | succ d ih =>
    intro i hi
    have h1 : i < xs.length := by omega
    refine Ev.step (fun k => ?_) (ih (i + 1) (by omega))
    simp only [spec_PolyTrim.l0]
    rw [if_pos (by omega), if_pos (by omega), spec_ScOf_eq, Option.bind_some, if_pos (by simp <;> omega), wrap_in (by omega) (by omega), rd_nat xs i h1, List.take_succ_eq_append_getElem h1, List.map_append]
    rfl
theorem spec_PolyTrim_ev (xs : List Int) (hl : xs.length ≤ 17592186044416) : Ev (fun k => spec_PolyTrim.f k xs) (trim xs) := spec_PolyTrim_l0 xs hl xs.length 0 (by omega)
end Go.Proofs.Ytcnejiflpioaiaa.Poly
end
section
/- What is proved here: what PolyAdd answers, of the program and of the reference alike: the sums place by place, trimmed. No conditions but that a list fits into memory. -/
set_option linter.unusedVariables false
set_option linter.unusedSimpArgs false
namespace Go.Proofs.Ytcnejiflpioaiaa.Poly
open Go.RowKit Go.Proofs.Ytcnejiflpioaiaa.Pf Go.Proofs.YtcnejiflpioaiaaW.PrintWords Go.Proofs.Ytcnejiflpioaiaa.Ints

/-- the number at a place, 0 behind the end -/
def at_ (xs : List Int) (i : Nat) : Int := xs.getD i 0
theorem at_lt {xs : List Int} {i : Nat} (h : i < xs.length) : at_ xs i = xs[i] := by simp [at_, h]
theorem at_ge {xs : List Int} {i : Nat} (h : xs.length ≤ i) : at_ xs i = 0 := by simp [at_, h]
theorem rd_at (xs : List Int) (i : Nat) : rd xs (i : Int) = at_ xs i := by simp [rd, at_]
theorem ext_at {xs ys : List Int} (hl : xs.length = ys.length) (h : ∀ i, i < xs.length → at_ xs i = at_ ys i) : xs = ys := by
  apply List.ext_getElem hl
  intro i h1 h2
  have := h i h1
  rwa [at_lt h1, at_lt h2] at this
theorem at_set (xs : List Int) (i j : Nat) (x : Int) (h : i < xs.length) : at_ (xs.set i x) j = if j = i then x else at_ xs j := by
  unfold at_
  rw [List.getD_eq_getElem?_getD, List.getD_eq_getElem?_getD, List.getElem?_set]
  by_cases hj : i = j
  · subst hj; simp [h]
  · simp [hj, show ¬ j = i from fun e => hj e.symm]
/-- a list by its numbers -/
def tab (n : Nat) (f : Nat → Int) : List Int := (List.range n).map f
theorem tab_length (n : Nat) (f : Nat → Int) : (tab n f).length = n := by simp [tab]
theorem tab_at (n : Nat) (f : Nat → Int) (i : Nat) (h : i < n) : at_ (tab n f) i = f i := by simp [at_, tab, h]
theorem eq_tab {xs : List Int} {n : Nat} {f : Nat → Int} (hl : xs.length = n) (h : ∀ i, i < n → at_ xs i = f i) : xs = tab n f :=
  ext_at (by rw [hl, tab_length]) (fun i hi => by rw [h i (by omega), tab_at n f i (by omega)])
theorem tab_congr {n : Nat} {f g : Nat → Int} (h : ∀ i, i < n → f i = g i) : tab n f = tab n g := eq_tab (tab_length _ _) (fun i hi => by rw [tab_at n f i hi, h i hi])
theorem tab_set (n : Nat) (f : Nat → Int) (i : Nat) (x : Int) (h : i < n) : (tab n f).set i x = tab n (fun j => if j = i then x else f j) :=
  eq_tab (by simp [tab_length]) (fun j hj => by rw [at_set _ _ _ _ (by rw [tab_length]; exact h), tab_at n f j hj])
theorem replicate_tab (n : Nat) : List.replicate n (0 : Int) = tab n (fun _ => 0) := eq_tab (by simp) (fun i hi => by simp [at_, hi])
def padd (xs ys : List Int) : List Int := trim (tab (max xs.length ys.length) (fun i => (at_ xs i + at_ ys i) % 1009))
theorem map_tab (n : Nat) (f : Nat → Int) (g : Int → Int) : (tab n f).map g = tab n (fun i => g (f i)) := by simp [tab, Function.comp_def]
theorem at_emod (xs : List Int) (i : Nat) : at_ (xs.map (· % 1009)) i = at_ xs i % 1009 := by
  by_cases h : i < xs.length
  · rw [at_lt (by simpa using h), at_lt h]; simp
  · rw [at_ge (by simp; omega), at_ge (by omega)]; rfl

theorem impl_PolyAdd_l1 (xs ys : List Int) (n : Nat) (hn : n = max xs.length ys.length) (hl : n ≤ 17592186044416) (d : Nat) : ∀ i, i + d = ys.length →
    Ev (fun k => impl_PolyAdd.l1 k (tab n (fun j => (at_ xs j + if j < i then at_ ys j else 0) % 1009)) ys (ys.length : Int) (i : Int)) (padd xs ys) := by
  induction d with
  | zero =>
    intro i hi
    obtain rfl : i = ys.length := by omega
    have e : tab n (fun j => (at_ xs j + if j < ys.length then at_ ys j else 0) % 1009) = tab n (fun j => (at_ xs j + at_ ys j) % 1009) :=
      tab_congr (fun j _ => by
        by_cases h : j < ys.length
        · rw [if_pos h]
        · rw [if_neg h, at_ge (xs := ys) (by omega)])
    refine Ev.step (fun k => ?_) (impl_PolyTrim_ev (tab n (fun j => (at_ xs j + at_ ys j) % 1009)) (by rw [tab_length]; exact hl) |> fun h => by rw [hn] at h; exact h)
    simp only [impl_PolyAdd.l1]
    rw [if_neg (by omega), e, hn]
    cases impl_PolyTrim.f k (tab (max xs.length ys.length) fun j => (at_ xs j + at_ ys j) % 1009) <;> rfl
  | succ d ih =>
    intro i hi
    have h1 : i < ys.length := by omega
    have h2 : i < n := by omega
    refine Ev.step (fun k => ?_) (ih (i + 1) (by omega))
    simp only [impl_PolyAdd.l1]
    rw [if_pos (by omega), if_pos (by omega), if_pos (by omega), if_pos (by rw [tab_length]; omega), impl_ScAdd_eq, Option.bind_some, Int.toNat_natCast, wrap_in (by omega) (by omega), rd_at, rd_at, tab_at _ _ _ h2, tab_set _ _ _ _ h2, if_neg (Nat.lt_irrefl i)]
    congr 1
    refine tab_congr (fun j hj => ?_)
    by_cases e : j = i
    · subst e; rw [if_pos rfl, if_pos (by omega)]; omega
    · rw [if_neg e]
      by_cases e2 : j < i
      · rw [if_pos e2, if_pos (by omega)]
      · rw [if_neg e2, if_neg (by omega)]
theorem impl_PolyAdd_l0 (xs ys : List Int) (n : Nat) (hn : n = max xs.length ys.length) (hl : n ≤ 17592186044416) (d : Nat) : ∀ i, i + d = xs.length →
    Ev (fun k => impl_PolyAdd.l0 k ys (tab n (fun j => if j < i then at_ xs j % 1009 else 0)) xs (xs.length : Int) (i : Int)) (padd xs ys) := by
  induction d with
  | zero =>
    intro i hi
    obtain rfl : i = xs.length := by omega
    have e : tab n (fun j => if j < xs.length then at_ xs j % 1009 else 0) = tab n (fun j => (at_ xs j + if j < 0 then at_ ys j else 0) % 1009) :=
      tab_congr (fun j _ => by
        by_cases h : j < xs.length
        · rw [if_pos h, if_neg (by omega)]; simp
        · rw [if_neg h, at_ge (by omega)]; rfl)
    refine Ev.step (fun k => ?_) (impl_PolyAdd_l1 xs ys n hn hl ys.length 0 (by omega))
    simp only [impl_PolyAdd.l0]
    rw [if_neg (by omega), e]
    rfl
  | succ d ih =>
    intro i hi
    have h1 : i < xs.length := by omega
    have h2 : i < n := by omega
    refine Ev.step (fun k => ?_) (ih (i + 1) (by omega))
    simp only [impl_PolyAdd.l0]
    rw [if_pos (by omega), if_pos (by omega), if_pos (by omega), impl_ScOf_eq, Option.bind_some, if_pos (by rw [tab_length]; omega), Int.toNat_natCast, wrap_in (by omega) (by omega), rd_at, tab_set _ _ _ _ h2]
    congr 1
    refine tab_congr (fun j hj => ?_)
    by_cases e : j = i
    · subst e; rw [if_pos rfl, if_pos (by omega)]
    · rw [if_neg e]
      by_cases e2 : j < i
      · rw [if_pos e2, if_pos (by omega)]
      · rw [if_neg e2, if_neg (by omega)]
theorem mx_nat (a b : Nat) : mx (a : Int) (b : Int) = ((max a b : Nat) : Int) := by unfold mx; split <;> omega
theorem impl_PolyAdd_ev (xs ys : List Int) (hx : xs.length ≤ 17592186044416) (hy : ys.length ≤ 17592186044416) : Ev (fun k => impl_PolyAdd.f k xs ys) (padd xs ys) := by
  have h := impl_PolyAdd_l0 xs ys _ rfl (by omega) xs.length 0 (by omega)
  refine Ev.congr (fun k => ?_) h
  simp only [impl_PolyAdd.f]
  rw [mx_nat, if_pos (by omega), Int.toNat_natCast, if_pos (by omega), replicate_tab]
  simp

theorem spec_PolyAdd_l0 (xs ys : List Int) (n : Nat) (hn : n = max xs.length ys.length) (hl : n ≤ 17592186044416) (d : Nat) : ∀ i, i + d = n →
    Ev (fun k => spec_PolyAdd.l0 k xs ys (n : Int) (tab n (fun j => if j < i then (at_ xs j + at_ ys j) % 1009 else 0)) (i : Int)) (padd xs ys) := by
  induction d with
  | zero =>
    intro i hi
    obtain rfl : i = n := by omega
    have e : tab i (fun j => if j < i then (at_ xs j + at_ ys j) % 1009 else 0) = tab i (fun j => (at_ xs j + at_ ys j) % 1009) := tab_congr (fun j hj => by rw [if_pos hj])
    refine Ev.step (fun k => ?_) (spec_PolyTrim_ev (tab i (fun j => (at_ xs j + at_ ys j) % 1009)) (by rw [tab_length]; exact hl) |> fun h => by rw [hn] at h; exact h)
    simp only [spec_PolyAdd.l0]
    rw [if_neg (by omega), e, hn]
    cases spec_PolyTrim.f k (tab (max xs.length ys.length) fun j => (at_ xs j + at_ ys j) % 1009) <;> rfl
  | succ d ih =>
    intro i hi
    have h2 : i < n := by omega
    have key : ∀ x, x = (at_ xs i + at_ ys i) % 1009 → (tab n (fun j => if j < i then (at_ xs j + at_ ys j) % 1009 else 0)).set i x = tab n (fun j => if j < i + 1 then (at_ xs j + at_ ys j) % 1009 else 0) := by
      intro x hx
      rw [tab_set _ _ _ _ h2]
      refine tab_congr (fun j hj => ?_)
      by_cases e : j = i
      · subst e; rw [if_pos rfl, if_pos (by omega), hx]
      · rw [if_neg e]
        by_cases e2 : j < i
        · rw [if_pos e2, if_pos (by omega)]
        · rw [if_neg e2, if_neg (by omega)]
    have z : at_ (tab n (fun j => if j < i then (at_ xs j + at_ ys j) % 1009 else 0)) i = 0 := by rw [tab_at _ _ _ h2, if_neg (Nat.lt_irrefl i)]
    have zl : (tab n (fun j => if j < i then (at_ xs j + at_ ys j) % 1009 else 0)).length = n := tab_length _ _
    generalize tab n (fun j => if j < i then (at_ xs j + at_ ys j) % 1009 else 0) = t at *
    refine Ev.step (fun k => ?_) (ih (i + 1) (by omega))
    simp only [spec_PolyAdd.l0]
    rw [if_pos (by omega)]
    by_cases hx : i < xs.length
    · rw [if_pos (by omega), if_pos (by omega), if_pos (by omega), spec_ScAdd_eq, Option.bind_some, Option.bind_some, Int.toNat_natCast]
      simp only [rd_at, z]
      by_cases hy : i < ys.length
      · rw [if_pos (by omega), spec_ScAdd_eq, Option.bind_some, at_set _ _ _ _ (by omega), if_pos rfl, List.set_set, wrap_in (by omega) (by omega), key]
        · rfl
        · omega
      · rw [if_neg (by omega), wrap_in (by omega) (by omega), key]
        · rfl
        · rw [at_ge (xs := ys) (by omega)]; omega
    · rw [if_neg (by omega)]
      have hy : i < ys.length := by omega
      rw [if_pos (by omega), if_pos (by omega), if_pos (by omega), spec_ScAdd_eq, Option.bind_some, Int.toNat_natCast, rd_at, rd_at, z, wrap_in (by omega) (by omega), key]
      · rfl
      · rw [at_ge (xs := xs) (by omega)]
theorem spec_PolyAdd_ev (xs ys : List Int) (hx : xs.length ≤ 17592186044416) (hy : ys.length ≤ 17592186044416) : Ev (fun k => spec_PolyAdd.f k xs ys) (padd xs ys) := by
  have h := spec_PolyAdd_l0 xs ys _ rfl (by omega) (max xs.length ys.length) 0 (by omega)
  have h2 : Ev (fun k => spec_PolyAdd.j0 k xs ys ((max xs.length ys.length : Nat) : Int)) (padd xs ys) := by
    refine Ev.step (fun k => ?_) h
    simp only [spec_PolyAdd.j0]
    rw [if_pos (by omega), Int.toNat_natCast, if_pos (by omega), replicate_tab]
    simp
  refine Ev.congr (fun k => ?_) h2
  simp only [spec_PolyAdd.f]
  by_cases h3 : (ys.length : Int) > (xs.length : Int)
  · rw [if_pos h3, show max xs.length ys.length = ys.length by omega]
  · rw [if_neg h3, show max xs.length ys.length = xs.length by omega]
end Go.Proofs.Ytcnejiflpioaiaa.Poly
end
section
/- What is proved here: what PolyMul and PolyZero answer, of the program and of the reference alike. No conditions. -/
set_option linter.unusedVariables false
set_option linter.unusedSimpArgs false
namespace Go.Proofs.Ytcnejiflpioaiaa.Poly
open Go.RowKit Go.Proofs.Ytcnejiflpioaiaa.Pf Go.Proofs.YtcnejiflpioaiaaW.PrintWords Go.Proofs.Ytcnejiflpioaiaa.Ints

/-- the products whose places come to n, of the first i numbers of xs -/
def conv (xs ys : List Int) : Nat → Nat → Int
  | 0, _ => 0
  | i + 1, n => conv xs ys i n + if i ≤ n then at_ xs i * at_ ys (n - i) else 0
def rowp (xs ys : List Int) (i j n : Nat) : Int := if i ≤ n ∧ n - i < j then at_ xs i * at_ ys (n - i) else 0
theorem row_none (xs ys : List Int) (i n : Nat) : rowp xs ys i 0 n = 0 := by unfold rowp; rw [if_neg (by omega)]
theorem row_all (xs ys : List Int) (i n : Nat) : rowp xs ys i ys.length n = if i ≤ n then at_ xs i * at_ ys (n - i) else 0 := by
  unfold rowp
  by_cases h : i ≤ n
  · by_cases h2 : n - i < ys.length
    · rw [if_pos ⟨h, h2⟩, if_pos h]
    · rw [if_neg (by omega), if_pos h, at_ge (xs := ys) (by omega)]; simp
  · rw [if_neg (by omega), if_neg h]
theorem conv_end (xs ys : List Int) (n : Nat) : ∀ i, i ≤ xs.length → xs.length + ys.length ≤ n + 1 → conv xs ys i n = 0
  | 0, _, _ => rfl
  | i + 1, h, h2 => by
    rw [conv, conv_end xs ys n i (by omega) h2, if_pos (by omega), at_ge (xs := ys) (by omega)]
    simp
def pmul (xs ys : List Int) : List Int := if xs.length > 64 ∨ ys.length > 64 then [] else trim (tab (xs.length + ys.length) (conv xs ys xs.length))
theorem cut_replicate : ∀ n, cut (tab n (fun _ => 0)) = []
  | 0 => rfl
  | n + 1 => by
    have : tab (n + 1) (fun _ => 0) = tab n (fun _ => 0) ++ [0] := by simp [tab, List.range_succ]
    rw [this, cut_zero, cut_replicate n]
theorem tab_succ (n : Nat) (f : Nat → Int) : tab (n + 1) f = tab n f ++ [f n] := by simp [tab, List.range_succ]
theorem trim_idem (n : Nat) (f : Nat → Int) : trim (tab n (fun i => f i % 1009)) = trim (tab n f) := by
  unfold trim
  rw [map_tab, map_tab]
  congr 1
  exact tab_congr (fun i _ => by omega)
theorem trim_short (xs ys : List Int) (h : 0 < xs.length + ys.length) : trim (tab (xs.length + ys.length) (conv xs ys xs.length)) = trim (tab (xs.length + ys.length - 1) (conv xs ys xs.length)) := by
  obtain ⟨N, hN⟩ : ∃ N, xs.length + ys.length = N + 1 := ⟨xs.length + ys.length - 1, by omega⟩
  rw [hN, Nat.add_sub_cancel]
  unfold trim
  rw [tab_succ, conv_end xs ys N xs.length (Nat.le_refl _) (by omega), List.map_append]
  exact cut_zero _
theorem step_row (xs ys : List Int) (N i j : Nat) (h : i + j < N) :
    (tab N (fun n => (conv xs ys i n + rowp xs ys i j n) % 1009)).set (i + j) ((at_ (tab N (fun n => (conv xs ys i n + rowp xs ys i j n) % 1009)) (i + j) + at_ xs i * at_ ys j % 1009) % 1009) = tab N (fun n => (conv xs ys i n + rowp xs ys i (j + 1) n) % 1009) := by
  rw [tab_set _ _ _ _ h, tab_at _ _ _ h]
  refine tab_congr (fun n _ => ?_)
  by_cases e : n = i + j
  · subst e
    rw [if_pos rfl]
    have e1 : rowp xs ys i j (i + j) = 0 := by unfold rowp; rw [if_neg (by omega)]
    have e2 : rowp xs ys i (j + 1) (i + j) = at_ xs i * at_ ys j := by unfold rowp; rw [if_pos (by omega), show i + j - i = j by omega]
    rw [e1, e2]
    omega
  · rw [if_neg e]
    have e1 : rowp xs ys i j n = rowp xs ys i (j + 1) n := by
      unfold rowp
      by_cases h1 : i ≤ n ∧ n - i < j
      · rw [if_pos h1, if_pos (by omega)]
      · rw [if_neg h1, if_neg (by omega)]
    rw [e1]
theorem row_done (xs ys : List Int) (N i : Nat) : tab N (fun n => (conv xs ys i n + rowp xs ys i ys.length n) % 1009) = tab N (fun n => conv xs ys (i + 1) n % 1009) :=
  tab_congr (fun n _ => by rw [row_all, conv])
theorem row_start (xs ys : List Int) (N i : Nat) : tab N (fun n => conv xs ys i n % 1009) = tab N (fun n => (conv xs ys i n + rowp xs ys i 0 n) % 1009) :=
  tab_congr (fun n _ => by rw [row_none, Int.add_zero])

theorem impl_PolyMul_l1 (xs ys : List Int) (hx : xs.length ≤ 64) (hy : ys.length ≤ 64) (N : Nat) (hN : xs.length + ys.length ≤ N + 1) (i : Nat) (hi : i < xs.length) (r : List Int)
    (next : Ev (fun k => impl_PolyMul.l0 k ys (tab N (fun n => conv xs ys (i + 1) n % 1009)) xs (xs.length : Int) ((i + 1 : Nat) : Int)) r) (d : Nat) : ∀ j, j + d = ys.length →
    Ev (fun k => impl_PolyMul.l1 k ys (tab N (fun n => (conv xs ys i n + rowp xs ys i j n) % 1009)) (i : Int) (at_ xs i) xs (xs.length : Int) (i : Int) ys (ys.length : Int) (j : Int)) r := by
  induction d with
  | zero =>
    intro j hj
    obtain rfl : j = ys.length := by omega
    refine Ev.step (fun k => ?_) next
    simp only [impl_PolyMul.l1]
    rw [if_neg (by omega), wrap_in (by omega) (by omega), row_done]
    rfl
  | succ d ih =>
    intro j hj
    refine Ev.step (fun k => ?_) (ih (j + 1) (by omega))
    simp only [impl_PolyMul.l1]
    rw [if_pos (by omega), if_pos (by omega), if_pos (by omega), wrap_in (i := (i : Int) + (j : Int)) (by omega) (by omega), if_pos (by omega), if_pos (by rw [tab_length]; omega), impl_ScMul_eq, Option.bind_some, impl_ScAdd_eq, Option.bind_some, wrap_in (by omega) (by omega),
      show (i : Int) + (j : Int) = ((i + j : Nat) : Int) by omega, Int.toNat_natCast, rd_at, rd_at, step_row xs ys N i j (by omega)]
    rfl
theorem impl_PolyMul_l0 (xs ys : List Int) (hx : xs.length ≤ 64) (hy : ys.length ≤ 64) (N : Nat) (hN : xs.length + ys.length ≤ N + 1) (hN2 : N ≤ 128) (d : Nat) : ∀ i, i + d = xs.length →
    Ev (fun k => impl_PolyMul.l0 k ys (tab N (fun n => conv xs ys i n % 1009)) xs (xs.length : Int) (i : Int)) (trim (tab N (conv xs ys xs.length))) := by
  induction d with
  | zero =>
    intro i hi
    obtain rfl : i = xs.length := by omega
    refine Ev.step (fun k => ?_) (impl_PolyTrim_ev (tab N (fun n => conv xs ys xs.length n % 1009)) (by rw [tab_length]; omega) |> fun h => by rw [trim_idem] at h; exact h)
    simp only [impl_PolyMul.l0]
    rw [if_neg (by omega)]
    cases impl_PolyTrim.f k (tab N fun n => conv xs ys xs.length n % 1009) <;> rfl
  | succ d ih =>
    intro i hi
    refine Ev.step (fun k => ?_) (impl_PolyMul_l1 xs ys hx hy N hN i (by omega) _ (ih (i + 1) (by omega)) ys.length 0 (by omega))
    simp only [impl_PolyMul.l0]
    rw [if_pos (by omega), if_pos (by omega), if_pos (by omega), rd_at, row_start]
    rfl
theorem impl_PolyMul_ev (xs ys : List Int) : Ev (fun k => impl_PolyMul.f k xs ys) (pmul xs ys) := by
  by_cases h1 : xs.length > 64
  · rw [pmul, if_pos (.inl h1)]
    exact Ev.one fun k => by simp only [impl_PolyMul.f, impl_PolyMul.j0]; rw [if_pos (by omega), if_pos trivial]
  · by_cases h2 : ys.length > 64
    · rw [pmul, if_pos (.inr h2)]
      exact Ev.one fun k => by simp only [impl_PolyMul.f, impl_PolyMul.j0]; rw [if_neg (by omega), if_pos (decide_eq_true (by omega))]
    · rw [pmul, if_neg (by omega)]
      refine Ev.step (fun k => ?_) (impl_PolyMul_l0 xs ys (by omega) (by omega) (xs.length + ys.length) (by omega) (by omega) xs.length 0 (by omega))
      simp only [impl_PolyMul.f, impl_PolyMul.j0]
      rw [if_neg (by omega), if_neg (by simp; omega), wrap_in (by omega) (by omega), if_pos (by omega), show (xs.length : Int) + (ys.length : Int) = ((xs.length + ys.length : Nat) : Int) by omega, Int.toNat_natCast, if_pos (by omega), replicate_tab]
      rfl
theorem spec_PolyMul_l1 (xs ys : List Int) (hx : xs.length ≤ 64) (hy : ys.length ≤ 64) (N : Nat) (hN : xs.length + ys.length ≤ N + 1) (i : Nat) (hi : i < xs.length) (r : List Int)
    (next : Ev (fun k => spec_PolyMul.l0 k xs ys (tab N (fun n => conv xs ys (i + 1) n % 1009)) ((i + 1 : Nat) : Int)) r) (d : Nat) : ∀ j, j + d = ys.length →
    Ev (fun k => spec_PolyMul.l1 k xs ys (tab N (fun n => (conv xs ys i n + rowp xs ys i j n) % 1009)) (i : Int) (j : Int)) r := by
  induction d with
  | zero =>
    intro j hj
    obtain rfl : j = ys.length := by omega
    refine Ev.step (fun k => ?_) next
    simp only [spec_PolyMul.l1]
    rw [if_neg (by omega), wrap_in (by omega) (by omega), row_done]
    rfl
  | succ d ih =>
    intro j hj
    refine Ev.step (fun k => ?_) (ih (j + 1) (by omega))
    simp only [spec_PolyMul.l1]
    rw [if_pos (by omega), wrap_in (i := (i : Int) + (j : Int)) (by omega) (by omega), if_pos (by omega), if_pos (by rw [tab_length]; omega), if_pos (by omega), if_pos (by omega), if_pos (by omega), spec_ScMul_eq, Option.bind_some, spec_ScAdd_eq, Option.bind_some, wrap_in (by omega) (by omega),
      show (i : Int) + (j : Int) = ((i + j : Nat) : Int) by omega, Int.toNat_natCast, rd_at, rd_at, rd_at, step_row xs ys N i j (by omega)]
    rfl
theorem spec_PolyMul_l0 (xs ys : List Int) (hx : xs.length ≤ 64) (hy : ys.length ≤ 64) (N : Nat) (hN : xs.length + ys.length ≤ N + 1) (hN2 : N ≤ 128) (d : Nat) : ∀ i, i + d = xs.length →
    Ev (fun k => spec_PolyMul.l0 k xs ys (tab N (fun n => conv xs ys i n % 1009)) (i : Int)) (trim (tab N (conv xs ys xs.length))) := by
  induction d with
  | zero =>
    intro i hi
    obtain rfl : i = xs.length := by omega
    refine Ev.step (fun k => ?_) (spec_PolyTrim_ev (tab N (fun n => conv xs ys xs.length n % 1009)) (by rw [tab_length]; omega) |> fun h => by rw [trim_idem] at h; exact h)
    simp only [spec_PolyMul.l0]
    rw [if_neg (by omega)]
    cases spec_PolyTrim.f k (tab N fun n => conv xs ys xs.length n % 1009) <;> rfl
  | succ d ih =>
    intro i hi
    refine Ev.step (fun k => ?_) (spec_PolyMul_l1 xs ys hx hy N hN i (by omega) _ (ih (i + 1) (by omega)) ys.length 0 (by omega))
    simp only [spec_PolyMul.l0]
    rw [if_pos (by omega), row_start]
    rfl
theorem pmul_nil_l (ys : List Int) : pmul [] ys = [] := by
  unfold pmul
  split
  · rfl
  · unfold trim
    rw [map_tab]
    exact cut_replicate _
theorem conv_nil_r (xs : List Int) (n : Nat) : ∀ i, conv xs [] i n = 0
  | 0 => rfl
  | i + 1 => by rw [conv, conv_nil_r xs n i, at_ge (xs := []) (by simp)]; simp
theorem pmul_nil_r (xs : List Int) : pmul xs [] = [] := by
  unfold pmul
  split
  · rfl
  · unfold trim
    rw [map_tab, tab_congr (g := fun _ => 0) (fun i _ => by rw [conv_nil_r]; rfl)]
    exact cut_replicate _
theorem spec_PolyMul_ev (xs ys : List Int) : Ev (fun k => spec_PolyMul.f k xs ys) (pmul xs ys) := by
  by_cases hx : xs.length = 0
  · obtain rfl := List.eq_nil_of_length_eq_zero hx
    rw [pmul_nil_l]
    exact Ev.one fun k => by simp only [spec_PolyMul.f, spec_PolyMul.j0]; rw [if_pos (by simp), if_pos trivial]
  by_cases hy : ys.length = 0
  · obtain rfl := List.eq_nil_of_length_eq_zero hy
    rw [pmul_nil_r]
    exact Ev.one fun k => by simp only [spec_PolyMul.f, spec_PolyMul.j0]; rw [if_neg (by omega), if_pos (by simp), if_pos trivial]
  by_cases h1 : xs.length > 64
  · rw [pmul, if_pos (.inl h1)]
    exact Ev.one fun k => by simp only [spec_PolyMul.f, spec_PolyMul.j0]; rw [if_neg (by omega), if_neg (by omega), if_pos (by omega), if_pos trivial]
  · by_cases h2 : ys.length > 64
    · rw [pmul, if_pos (.inr h2)]
      exact Ev.one fun k => by simp only [spec_PolyMul.f, spec_PolyMul.j0]; rw [if_neg (by omega), if_neg (by omega), if_neg (by omega), if_pos (decide_eq_true (by omega))]
    · rw [pmul, if_neg (by omega), trim_short xs ys (by omega)]
      refine Ev.step (fun k => ?_) (spec_PolyMul_l0 xs ys (by omega) (by omega) (xs.length + ys.length - 1) (by omega) (by omega) xs.length 0 (by omega))
      simp only [spec_PolyMul.f, spec_PolyMul.j0]
      rw [if_neg (by omega), if_neg (by omega), if_neg (by omega), if_neg (by simp; omega), wrap_in (i := (xs.length : Int) + (ys.length : Int)) (by omega) (by omega), wrap_in (by omega) (by omega), if_pos (by omega), show (xs.length : Int) + (ys.length : Int) - 1 = ((xs.length + ys.length - 1 : Nat) : Int) by omega, Int.toNat_natCast, if_pos (by omega), replicate_tab]
      rfl
theorem pmul_length (xs ys : List Int) : (pmul xs ys).length ≤ 128 := by
  unfold pmul
  split
  · simp
  · have := trim_length (tab (xs.length + ys.length) (conv xs ys xs.length))
    rw [tab_length] at this
    omega
theorem padd_length (xs ys : List Int) : (padd xs ys).length ≤ max xs.length ys.length := by
  have := trim_length (tab (max xs.length ys.length) (fun i => (at_ xs i + at_ ys i) % 1009))
  rwa [tab_length] at this
end Go.Proofs.Ytcnejiflpioaiaa.Poly
end
section
/- What is proved here: what PolyZero, ScInv, the scaling of a list and PolyThrough answer, of the program and of the reference alike. No conditions but on lengths. -/
set_option linter.unusedVariables false
set_option linter.unusedSimpArgs false
namespace Go.Proofs.Ytcnejiflpioaiaa.Poly
open Go.RowKit Go.Proofs.Ytcnejiflpioaiaa.Pf Go.Proofs.YtcnejiflpioaiaaW.PrintWords Go.Proofs.Ytcnejiflpioaiaa.Ints

def pz : Nat → Int → List Int → List Int
  | 0, _, acc => acc
  | d + 1, i, acc => pz d (i + 1) (pmul acc [-i, 1])
def pzero (n : Int) : List Int := if 0 ≤ n ∧ n ≤ 16 then pz n.toNat 1 [1] else []
theorem pz_length : ∀ d i acc, acc.length ≤ 128 → (pz d i acc).length ≤ 128
  | 0, _, _, h => h
  | d + 1, i, acc, _ => pz_length d (i + 1) _ (pmul_length _ _)
theorem pzero_length (n : Int) : (pzero n).length ≤ 128 := by
  unfold pzero
  split
  · exact pz_length _ _ _ (by simp)
  · simp

theorem inv_ends : ∀ (k : Nat) (n : Int), 0 ≤ n → n < 2 ^ k → n ≤ 1007 → ∀ o b, ∃ r, spec_ScInv.l0 (k + 1) o b n = some r
  | 0, n, h0, h1, h2, o, b => by
    refine ⟨o, ?_⟩
    simp only [spec_ScInv.l0]
    rw [if_neg (by simp at h1; omega)]
  | k + 1, n, h0, h1, h2, o, b => by
    rw [spec_ScInv.l0]
    by_cases hn : n > 0
    · have hd : Int.tdiv n 2 = n / 2 := Int.tdiv_eq_ediv_of_nonneg h0
      have hp : (2 : Int) ^ (k + 1) = 2 * 2 ^ k := by rw [Int.pow_succ, Int.mul_comm]
      rw [if_pos hn, hd, wrap_in (by omega) (by omega), spec_ScMul_eq, spec_ScMul_eq]
      simp only [Option.bind_some]
      by_cases hm : Int.tmod n 2 = 1
      · rw [if_pos hm]
        exact inv_ends k (n / 2) (by omega) (by omega) (by omega) _ _
      · rw [if_neg hm]
        exact inv_ends k (n / 2) (by omega) (by omega) (by omega) _ _
    · exact ⟨o, by rw [if_neg hn]⟩
theorem inv_at (K k : Nat) (h : K = k + 1) (n : Int) (h0 : 0 ≤ n) (h1 : n < 2 ^ k) (h2 : n ≤ 1007) (o b : Int) : ∃ r, spec_ScInv.l0 K o b n = some r := by
  rw [h]
  exact inv_ends k n h0 h1 h2 o b
theorem inv_from (a : Int) : ∃ r, spec_ScInv.l0 11 1 (a % 1009) 1007 = some r := by
  obtain ⟨r, hr⟩ := inv_at 11 10 rfl 1007 (by decide) (by decide) (by decide) 1 (a % 1009)
  exact ⟨r, hr⟩
theorem inv_is (a : Int) (r : Int) (hr : spec_ScInv.l0 11 1 (a % 1009) 1007 = some r) : spec_ScInv.f 11 a = some r := by
  rw [spec_ScInv.f, spec_ScOf_eq, Option.bind_some]; exact hr
theorem inv_some (a : Int) : ∃ r, spec_ScInv.f 11 a = some r := by
  obtain ⟨r, hr⟩ := inv_from a
  exact ⟨r, inv_is a r hr⟩
def sinv (a : Int) : Int := (spec_ScInv.f 11 a).getD 0
theorem spec_ScInv_ev (a : Int) : Ev (fun k => spec_ScInv.f k a) (sinv a) := by
  obtain ⟨r, hr⟩ := inv_some a
  have e : sinv a = r := by unfold sinv; rw [hr]; rfl
  rw [e]
  exact Ev.of (fun k => spec_ScInv.mono a k) hr
theorem tmod_nat (a : Int) (h0 : 0 ≤ a) (h1 : a ≤ 9223372036854775807) : Int.tmod (wrap64 a) 1009 = a % 1009 := by
  rw [wrap_in (by omega) h1]
  exact Int.tmod_eq_emod_of_nonneg h0
theorem inv_loop (k : Nat) : ∀ o a n, 0 ≤ a → a ≤ 1008 → 0 ≤ o → o ≤ 1008 → impl_powerMod.l0 k a n 1009 o = spec_ScInv.l0 k o a n := by
  induction k with
  | zero => intros; rfl
  | succ k ih =>
    intro o a n h0 h1 h2 h3
    have b1 : 0 ≤ a * a ∧ a * a ≤ 1016064 := ⟨Int.mul_nonneg h0 h0, by have := Int.mul_le_mul h1 h1 h0 (by decide); omega⟩
    have b2 : 0 ≤ o * a ∧ o * a ≤ 1016064 := ⟨Int.mul_nonneg h2 h0, by have := Int.mul_le_mul h3 h1 h0 (by decide); omega⟩
    simp only [impl_powerMod.l0, spec_ScInv.l0, spec_ScMul_eq, Option.bind_some]
    have z : ¬ ((1009 : Int) = 0) := by decide
    by_cases hn : n > 0
    · rw [if_pos hn, if_pos hn]
      by_cases hm : Int.tmod n 2 = 1
      · rw [if_pos hm, if_pos hm, if_neg z, tmod_nat _ b1.1 (by omega), tmod_nat _ b2.1 (by omega), ih _ _ _ (by omega) (by omega) (by omega) (by omega)]
      · rw [if_neg hm, if_neg hm, if_neg z, tmod_nat _ b1.1 (by omega), ih _ _ _ (by omega) (by omega) h2 h3]
    · rw [if_neg hn, if_neg hn]
theorem impl_ScInv_ev (a : Int) : Ev (fun k => impl_ScInv.f k a) (sinv a) := by
  refine Ev.congr (fun k => ?_) (spec_ScInv_ev a)
  have e := impl_ScOf_eq a
  unfold impl_ScOf.f at e
  have e2 : impl_remainder.f a 1009 = some (a % 1009) := by
    cases h : impl_remainder.f a 1009 with
    | none => rw [h] at e; cases e
    | some v => rw [h] at e; exact e
  simp only [impl_ScInv.f, impl_powerMod.f, spec_ScInv.f, spec_ScOf_eq, e2, Option.bind_some]
  rw [inv_loop k 1 (a % 1009) 1007 (by omega) (by omega) (by omega) (by omega)]
  cases spec_ScInv.l0 k 1 (a % 1009) 1007 <;> rfl

/-! ### a list times a number -/
def scale (xs : List Int) (c : Int) : List Int := xs.map (fun a => (a * c) % 1009)
theorem scale_length (xs : List Int) (c : Int) : (scale xs c).length = xs.length := by simp [scale]
theorem scale_tab (xs : List Int) (c : Int) : scale xs c = tab xs.length (fun i => (at_ xs i * c) % 1009) :=
  eq_tab (scale_length xs c) (fun i hi => by rw [at_lt (by rw [scale_length]; exact hi), at_lt hi]; simp [scale])
theorem impl_scaled_l0 (xs : List Int) (c : Int) (hl : xs.length ≤ 17592186044416) (d : Nat) : ∀ i, i + d = xs.length →
    Ev (fun k => impl_scaled.l0 k c (tab xs.length (fun j => if j < i then (at_ xs j * c) % 1009 else 0)) xs (xs.length : Int) (i : Int)) (scale xs c) := by
  induction d with
  | zero =>
    intro i hi
    obtain rfl : i = xs.length := by omega
    refine Ev.one fun k => ?_
    simp only [impl_scaled.l0]
    rw [if_neg (by omega), scale_tab]
    congr 1
    exact tab_congr (fun j hj => by rw [if_pos hj])
  | succ d ih =>
    intro i hi
    have h1 : i < xs.length := by omega
    refine Ev.step (fun k => ?_) (ih (i + 1) (by omega))
    simp only [impl_scaled.l0]
    rw [if_pos (by omega), if_pos (by omega), if_pos (by omega), impl_ScMul_eq, Option.bind_some, if_pos (by rw [tab_length]; omega), Int.toNat_natCast, wrap_in (by omega) (by omega), rd_at, tab_set _ _ _ _ h1]
    congr 1
    refine tab_congr (fun j hj => ?_)
    by_cases e : j = i
    · subst e; rw [if_pos rfl, if_pos (by omega)]
    · rw [if_neg e]
      by_cases e2 : j < i
      · rw [if_pos e2, if_pos (by omega)]
      · rw [if_neg e2, if_neg (by omega)]
theorem impl_scaled_ev (xs : List Int) (c : Int) (hl : xs.length ≤ 17592186044416) : Ev (fun k => impl_scaled.f k xs c) (scale xs c) := by
  refine Ev.congr (fun k => ?_) (impl_scaled_l0 xs c hl xs.length 0 (by omega))
  simp only [impl_scaled.f]
  rw [if_pos (by omega), Int.toNat_natCast, if_pos (by omega), replicate_tab]
  simp
theorem spec_l14Scale_l0 (xs : List Int) (c : Int) (hl : xs.length ≤ 17592186044416) (d : Nat) : ∀ i, i + d = xs.length → Ev (fun k => spec_l14Scale.l0 k xs c (scale (xs.take i) c) (i : Int)) (scale xs c) := by
  induction d with
  | zero =>
    intro i hi
    refine Ev.one fun k => ?_
    simp only [spec_l14Scale.l0]
    rw [if_neg (by omega), List.take_of_length_le (by omega)]
  | succ d ih =>
    intro i hi
    have h1 : i < xs.length := by omega
    refine Ev.step (fun k => ?_) (ih (i + 1) (by omega))
    simp only [spec_l14Scale.l0]
    rw [if_pos (by omega), if_pos (by omega), spec_ScMul_eq, Option.bind_some, if_pos (by rw [scale_length, List.length_take]; omega), wrap_in (by omega) (by omega), rd_nat xs i h1, List.take_succ_eq_append_getElem h1]
    rw [scale, scale, List.map_append]
    rfl
theorem spec_l14Scale_ev (xs : List Int) (c : Int) (hl : xs.length ≤ 17592186044416) : Ev (fun k => spec_l14Scale.f k xs c) (scale xs c) := spec_l14Scale_l0 xs c hl xs.length 0 (by omega)

/-! ### through all -/
def tb (i : Int) : Nat → Int → List Int → Int → List Int × Int
  | 0, _, t, b => (t, b)
  | d + 1, j, t, b => if j = i then tb i d (j + 1) t b else tb i d (j + 1) (pmul t [-(j + 1), 1]) ((b * (i - j)) % 1009)
def thr (xs : List Int) : Nat → Nat → List Int → List Int
  | 0, _, out => out
  | d + 1, i, out => thr xs d (i + 1) (padd out (scale (tb (i : Int) xs.length 0 [1] 1).1 ((at_ xs i * sinv (tb (i : Int) xs.length 0 [1] 1).2) % 1009)))
def pthrough (xs : List Int) : List Int := if xs.length > 16 then [] else thr xs xs.length 0 []
theorem tb_length (i : Int) : ∀ d j t b, t.length ≤ 128 → (tb i d j t b).1.length ≤ 128
  | 0, _, _, _, h => h
  | d + 1, j, t, b, h => by
    rw [tb]
    split
    · exact tb_length i d (j + 1) t b h
    · exact tb_length i d (j + 1) _ _ (pmul_length _ _)
theorem thr_length (xs : List Int) : ∀ d i out, out.length ≤ 128 → (thr xs d i out).length ≤ 128
  | 0, _, _, h => h
  | d + 1, i, out, h => by
    rw [thr]
    refine thr_length xs d (i + 1) _ ?_
    have h1 := tb_length (i : Int) xs.length 0 [1] 1 (by simp)
    have h2 := padd_length out (scale (tb (i : Int) xs.length 0 [1] 1).1 ((at_ xs i * sinv (tb (i : Int) xs.length 0 [1] 1).2) % 1009))
    rw [scale_length] at h2
    omega
theorem pthrough_length (xs : List Int) : (pthrough xs).length ≤ 128 := by
  unfold pthrough
  split
  · simp
  · exact thr_length xs _ _ _ (by simp)

theorem impl_PolyThrough_l1 (xs out : List Int) (hl : xs.length ≤ 16) (ho : out.length ≤ 128) (i : Nat) (hi : i < xs.length) (t1 : List Int) (b1 : Int) (ht1 : t1.length ≤ 128) (r : List Int)
    (next : Ev (fun k => impl_PolyThrough.l0 k xs (padd out (scale t1 ((at_ xs i * sinv b1) % 1009))) xs (xs.length : Int) ((i + 1 : Nat) : Int)) r) : ∀ (d : Nat) (j : Int) (t : List Int) (b : Int), 0 ≤ j → j + (d : Int) = (xs.length : Int) → tb (i : Int) d j t b = (t1, b1) → Ev (fun k => impl_PolyThrough.l1 k xs out (i : Int) (at_ xs i) t b xs (xs.length : Int) (i : Int) (xs.length : Int) j) r
  | 0, j, t, b, h0, hj, ht => by
    obtain ⟨rfl, rfl⟩ : t = t1 ∧ b = b1 := by simpa [tb] using ht
    obtain ⟨K1, h1⟩ := impl_ScInv_ev b
    obtain ⟨K2, h2⟩ := impl_scaled_ev t ((at_ xs i * sinv b) % 1009) (by omega)
    obtain ⟨K3, h3⟩ := impl_PolyAdd_ev out (scale t ((at_ xs i * sinv b) % 1009)) (by omega) (by rw [scale_length]; omega)
    obtain ⟨K4, h4⟩ := next
    refine ⟨K1 + K2 + K3 + K4 + 1, fun k hk => ?_⟩
    obtain ⟨k, rfl⟩ : ∃ m, k = m + 1 := ⟨k - 1, by omega⟩
    have e1 := h1 k (by omega)
    have e2 := h2 k (by omega)
    have e3 := h3 k (by omega)
    have e4 := h4 k (by omega)
    dsimp only at e1 e2 e3 e4
    simp only [impl_PolyThrough.l1]
    rw [if_neg (by omega), e1, Option.bind_some, impl_ScMul_eq, Option.bind_some, e2, Option.bind_some, e3, Option.bind_some, wrap_in (by omega) (by omega)]
    exact e4
  | d + 1, j, t, b, h0, hj, ht => by
    rw [tb] at ht
    by_cases e : j = (i : Int)
    · rw [if_pos e] at ht
      refine Ev.step (fun k => ?_) (impl_PolyThrough_l1 xs out hl ho i hi t1 b1 ht1 r next d (j + 1) t b (by omega) (by omega) ht)
      simp only [impl_PolyThrough.l1]
      rw [if_pos (by omega), if_pos e, wrap_in (by omega) (by omega)]
    · rw [if_neg e] at ht
      obtain ⟨K1, h1⟩ := impl_PolyMul_ev t [-(j + 1), 1]
      obtain ⟨K2, h2⟩ := impl_PolyThrough_l1 xs out hl ho i hi t1 b1 ht1 r next d (j + 1) _ _ (by omega) (by omega) ht
      refine ⟨K1 + K2 + 1, fun k hk => ?_⟩
      obtain ⟨k, rfl⟩ : ∃ m, k = m + 1 := ⟨k - 1, by omega⟩
      have e1 := h1 k (by omega)
      have e2 := h2 k (by omega)
      dsimp only at e1 e2
      simp only [impl_PolyThrough.l1]
      rw [if_pos (by omega), if_neg e, wrap_in (i := j + 1) (by omega) (by omega), wrap_in (i := -(j + 1)) (by omega) (by omega), e1, Option.bind_some, wrap_in (by omega) (by omega), impl_ScMul_eq, Option.bind_some]
      exact e2
theorem impl_PolyThrough_l0 (xs : List Int) (hl : xs.length ≤ 16) : ∀ (d i : Nat) (out : List Int), out.length ≤ 128 → i + d = xs.length → Ev (fun k => impl_PolyThrough.l0 k xs out xs (xs.length : Int) (i : Int)) (thr xs d i out)
  | 0, i, out, ho, hi => Ev.one fun k => by
    simp only [impl_PolyThrough.l0]
    rw [if_neg (by omega)]
    rfl
  | d + 1, i, out, ho, hi => by
    have h1 := tb_length (i : Int) xs.length 0 [1] 1 (by simp)
    have h2 := padd_length out (scale (tb (i : Int) xs.length 0 [1] 1).1 ((at_ xs i * sinv (tb (i : Int) xs.length 0 [1] 1).2) % 1009))
    rw [scale_length] at h2
    rw [thr]
    refine Ev.step (fun k => ?_) (impl_PolyThrough_l1 xs out hl ho i (by omega) _ _ h1 _ (impl_PolyThrough_l0 xs hl d (i + 1) _ (by omega) (by omega)) xs.length 0 [1] 1 (by omega) (by omega) rfl)
    simp only [impl_PolyThrough.l0]
    rw [if_pos (by omega), if_pos (by omega), if_pos (by omega), rd_at]
theorem impl_PolyThrough_ev (xs : List Int) : Ev (fun k => impl_PolyThrough.f k xs) (pthrough xs) := by
  unfold pthrough
  by_cases h : xs.length > 16
  · rw [if_pos h]
    exact Ev.one fun k => by simp only [impl_PolyThrough.f]; rw [if_pos (by omega)]
  · rw [if_neg h]
    refine Ev.congr (fun k => ?_) (impl_PolyThrough_l0 xs (by omega) xs.length 0 [] (by simp) (by omega))
    simp only [impl_PolyThrough.f]
    rw [if_neg (by omega)]
    rfl

theorem spec_PolyThrough_l1 (xs out : List Int) (hl : xs.length ≤ 16) (ho : out.length ≤ 128) (i : Nat) (hi : i < xs.length) (t1 : List Int) (b1 : Int) (ht1 : t1.length ≤ 128) (r : List Int)
    (next : Ev (fun k => spec_PolyThrough.l0 k xs (padd out (scale t1 ((at_ xs i * sinv b1) % 1009))) ((i + 1 : Nat) : Int)) r) : ∀ (d : Nat) (j : Int) (t : List Int) (b : Int), 0 ≤ j → j + (d : Int) = (xs.length : Int) → tb (i : Int) d j t b = (t1, b1) → Ev (fun k => spec_PolyThrough.l1 k xs out (i : Int) t b j) r
  | 0, j, t, b, h0, hj, ht => by
    obtain ⟨rfl, rfl⟩ : t = t1 ∧ b = b1 := by simpa [tb] using ht
    obtain ⟨K1, h1⟩ := spec_ScInv_ev b
    obtain ⟨K2, h2⟩ := spec_l14Scale_ev t ((at_ xs i * sinv b) % 1009) (by omega)
    obtain ⟨K3, h3⟩ := spec_PolyAdd_ev out (scale t ((at_ xs i * sinv b) % 1009)) (by omega) (by rw [scale_length]; omega)
    obtain ⟨K4, h4⟩ := next
    refine ⟨K1 + K2 + K3 + K4 + 1, fun k hk => ?_⟩
    obtain ⟨k, rfl⟩ : ∃ m, k = m + 1 := ⟨k - 1, by omega⟩
    have e1 := h1 k (by omega)
    have e2 := h2 k (by omega)
    have e3 := h3 k (by omega)
    have e4 := h4 k (by omega)
    dsimp only at e1 e2 e3 e4
    simp only [spec_PolyThrough.l1]
    rw [if_neg (by omega), if_pos (by omega), if_pos (by omega), e1, Option.bind_some, spec_ScMul_eq, Option.bind_some, rd_at, e2, Option.bind_some, e3, Option.bind_some, wrap_in (by omega) (by omega)]
    exact e4
  | d + 1, j, t, b, h0, hj, ht => by
    rw [tb] at ht
    by_cases e : j = (i : Int)
    · rw [if_pos e] at ht
      refine Ev.step (fun k => ?_) (spec_PolyThrough_l1 xs out hl ho i hi t1 b1 ht1 r next d (j + 1) t b (by omega) (by omega) ht)
      simp only [spec_PolyThrough.l1]
      rw [if_pos (by omega), if_pos e, wrap_in (by omega) (by omega)]
    · rw [if_neg e] at ht
      obtain ⟨K1, h1⟩ := spec_PolyMul_ev t [-(j + 1), 1]
      obtain ⟨K2, h2⟩ := spec_PolyThrough_l1 xs out hl ho i hi t1 b1 ht1 r next d (j + 1) _ _ (by omega) (by omega) ht
      refine ⟨K1 + K2 + 1, fun k hk => ?_⟩
      obtain ⟨k, rfl⟩ : ∃ m, k = m + 1 := ⟨k - 1, by omega⟩
      have e1 := h1 k (by omega)
      have e2 := h2 k (by omega)
      dsimp only at e1 e2
      simp only [spec_PolyThrough.l1]
      rw [if_pos (by omega), if_neg e, wrap_in (i := j + 1) (by omega) (by omega), wrap_in (i := -(j + 1)) (by omega) (by omega), e1, Option.bind_some, wrap_in (by omega) (by omega), spec_ScMul_eq, Option.bind_some]
      exact e2
theorem spec_PolyThrough_l0 (xs : List Int) (hl : xs.length ≤ 16) : ∀ (d i : Nat) (out : List Int), out.length ≤ 128 → i + d = xs.length → Ev (fun k => spec_PolyThrough.l0 k xs out (i : Int)) (thr xs d i out)
  | 0, i, out, ho, hi => Ev.one fun k => by
    simp only [spec_PolyThrough.l0]
    rw [if_neg (by omega)]
    rfl
  | d + 1, i, out, ho, hi => by
    have h1 := tb_length (i : Int) xs.length 0 [1] 1 (by simp)
    have h2 := padd_length out (scale (tb (i : Int) xs.length 0 [1] 1).1 ((at_ xs i * sinv (tb (i : Int) xs.length 0 [1] 1).2) % 1009))
    rw [scale_length] at h2
    rw [thr]
    refine Ev.step (fun k => ?_) (spec_PolyThrough_l1 xs out hl ho i (by omega) _ _ h1 _ (spec_PolyThrough_l0 xs hl d (i + 1) _ (by omega) (by omega)) xs.length 0 [1] 1 (by omega) (by omega) rfl)
    simp only [spec_PolyThrough.l0]
    rw [if_pos (by omega)]
theorem spec_PolyThrough_ev (xs : List Int) : Ev (fun k => spec_PolyThrough.f k xs) (pthrough xs) := by
  unfold pthrough
  by_cases h : xs.length > 16
  · rw [if_pos h]
    exact Ev.one fun k => by simp only [spec_PolyThrough.f]; rw [if_pos (by omega)]
  · rw [if_neg h]
    refine Ev.congr (fun k => ?_) (spec_PolyThrough_l0 xs (by omega) xs.length 0 [] (by simp) (by omega))
    simp only [spec_PolyThrough.f]
    rw [if_neg (by omega)]
    rfl
end Go.Proofs.Ytcnejiflpioaiaa.Poly
end
section
/- What is proved here: what the helpers over systems answer (a copy is the system, a system equals itself, its size), and that SystemOk and Satisfied of the program and of the reference are one plain function. No conditions but sizes. -/
set_option linter.unusedVariables false
set_option linter.unusedSimpArgs false
namespace Go.Proofs.Ytcnejiflpioaiaa.Sys
open Go.RowKit Go.Proofs.Ytcnejiflpioaiaa.Pf Go.Proofs.YtcnejiflpioaiaaW.PrintWords Go.Proofs.Ytcnejiflpioaiaa.Ints
set_option maxRecDepth 4000

abbrev RT := S40
abbrev RA := S92
def conv (x : RA) : RT := ⟨x.f0, x.f1, x.f2⟩
def fits (x : RA) : Prop := x.f0.length ≤ 1048576 ∧ x.f1.length ≤ 1048576 ∧ x.f2.length ≤ 1048576
def fitsT (x : RT) : Prop := x.f0.length ≤ 1048576 ∧ x.f1.length ≤ 1048576 ∧ x.f2.length ≤ 1048576

theorem rdA {xs : List RA} {i : Nat} (h : i < xs.length) : rd_T92 xs (i : Int) = xs[i] := by
  unfold rd_T92
  rw [Int.toNat_natCast, List.getD_eq_getElem?_getD, List.getElem?_eq_getElem h]; rfl
theorem rdT {xs : List RT} {i : Nat} (h : i < xs.length) : rd_T40 xs (i : Int) = xs[i] := by
  unfold rd_T40
  rw [Int.toNat_natCast, List.getD_eq_getElem?_getD, List.getElem?_eq_getElem h]; rfl

theorem szIntS_f (xs : List Int) (a : Int) (h0 : 0 ≤ a) (h1 : a ≤ 1048576) (hn : xs.length ≤ 9223372036854775807) :
    ∃ z, laws_szIntS.f xs a = some z ∧ (z < 0 ∨ (0 ≤ z ∧ z ≤ a ∧ xs.length ≤ 1048576)) := by
  unfold laws_szIntS.f
  rw [wrap_in (by omega) (by omega)]
  by_cases h : a - (xs.length : Int) < 0
  · rw [if_pos h]; exact ⟨_, rfl, Or.inl (by decide)⟩
  · rw [if_neg h]; exact ⟨_, rfl, Or.inr ⟨by omega, by omega, by omega⟩⟩

theorem szRow_f (a b c : List Int) (n : Int) (h0 : 0 ≤ n) (h1 : n ≤ 1048576) (ha : a.length ≤ 9223372036854775807) (hb : b.length ≤ 9223372036854775807) (hc : c.length ≤ 9223372036854775807) :
    ∃ z, laws_szRow.f a b c n = some z ∧ (z < 0 ∨ (0 ≤ z ∧ z ≤ n ∧ a.length ≤ 1048576 ∧ b.length ≤ 1048576 ∧ c.length ≤ 1048576)) := by
  unfold laws_szRow.f
  obtain ⟨z1, e1, g1⟩ := szIntS_f a n h0 h1 ha
  rw [e1]; simp only [Option.bind_some]
  rcases g1 with g1 | ⟨g1, g1', g1''⟩
  · rw [if_pos g1]; exact ⟨_, rfl, Or.inl (by decide)⟩
  rw [if_neg (by omega)]
  obtain ⟨z2, e2, g2⟩ := szIntS_f b z1 g1 (by omega) hb
  rw [e2]; simp only [Option.bind_some]
  rcases g2 with g2 | ⟨g2, g2', g2''⟩
  · rw [if_pos g2]; exact ⟨_, rfl, Or.inl (by decide)⟩
  rw [if_neg (by omega)]
  obtain ⟨z3, e3, g3⟩ := szIntS_f c z2 g2 (by omega) hc
  rw [e3]; simp only [Option.bind_some]
  rcases g3 with g3 | ⟨g3, g3', g3''⟩
  · rw [if_pos g3]; exact ⟨_, rfl, Or.inl (by decide)⟩
  rw [if_neg (by omega)]
  exact ⟨_, rfl, Or.inr ⟨by omega, by omega, by omega, by omega, by omega⟩⟩

theorem szRowS_l0 (xs : List RA) (hx : ∀ y ∈ xs, y.f0.length ≤ 9223372036854775807 ∧ y.f1.length ≤ 9223372036854775807 ∧ y.f2.length ≤ 9223372036854775807) (hn : xs.length ≤ 1048576) (d : Nat) : ∀ (i : Nat) (n : Int), i + d = xs.length → 0 ≤ n → n ≤ 1048576 →
    ∃ z, (∀ k, d < k → laws_szRowS.l0 k xs n (i : Int) = some z) ∧ (z < 0 ∨ (0 ≤ z ∧ ∀ y ∈ xs.drop i, fits y)) := by
  induction d with
  | zero =>
    intro i n hi h0 h1
    refine ⟨n, fun k hk => ?_, Or.inr ⟨h0, fun y hy => ?_⟩⟩
    · obtain ⟨k, rfl⟩ : ∃ m, k = m + 1 := ⟨k - 1, by omega⟩
      simp only [laws_szRowS.l0]
      rw [if_neg (by omega)]
    · rw [List.drop_of_length_le (by omega)] at hy; simp at hy
  | succ d ih =>
    intro i n hi h0 h1
    have hlt : i < xs.length := by omega
    obtain ⟨q0, q1, q2⟩ := hx xs[i] (List.getElem_mem hlt)
    obtain ⟨z, e, g⟩ := szRow_f xs[i].f0 xs[i].f1 xs[i].f2 n h0 h1 q0 q1 q2
    rcases g with g | ⟨g0, g1, g2, g3, g4⟩
    · refine ⟨-1, fun k hk => ?_, Or.inl (by decide)⟩
      obtain ⟨k, rfl⟩ : ∃ m, k = m + 1 := ⟨k - 1, by omega⟩
      simp only [laws_szRowS.l0]
      rw [if_pos (by omega), if_pos (by omega), rdA hlt, e]
      simp only [Option.bind_some]
      rw [if_pos g]
    · obtain ⟨z', e', g'⟩ := ih (i + 1) z (by omega) g0 (by omega)
      refine ⟨z', fun k hk => ?_, ?_⟩
      · obtain ⟨k, rfl⟩ : ∃ m, k = m + 1 := ⟨k - 1, by omega⟩
        simp only [laws_szRowS.l0]
        rw [if_pos (by omega), if_pos (by omega), rdA hlt, e]
        simp only [Option.bind_some]
        rw [if_neg (by omega), wrap_in (by omega) (by omega), show (i : Int) + 1 = ((i + 1 : Nat) : Int) by omega]
        exact e' k (by omega)
      · rcases g' with g' | ⟨g', g''⟩
        · exact Or.inl g'
        · refine Or.inr ⟨g', fun y hy => ?_⟩
          rw [List.drop_eq_getElem_cons hlt, List.mem_cons] at hy
          rcases hy with rfl | hy
          · exact ⟨g2, g3, g4⟩
          · exact g'' y hy

theorem szSystem_f (a b : Int) (xs : List RA) (hx : ∀ y ∈ xs, y.f0.length ≤ 9223372036854775807 ∧ y.f1.length ≤ 9223372036854775807 ∧ y.f2.length ≤ 9223372036854775807) (hn : xs.length ≤ 9223372036854775807) :
    ∃ z, (∀ k, 1048577 < k → laws_szSystem.f k a b xs 1048576 = some z) ∧ (z < 0 ∨ (0 ≤ z ∧ xs.length ≤ 1048576 ∧ ∀ y ∈ xs, fits y)) := by
  unfold laws_szSystem.f laws_szRowS.f
  rw [wrap_in (by omega) (by omega)]
  by_cases h : (1048576 : Int) - (xs.length : Int) < 0
  · refine ⟨-1, fun k hk => ?_, Or.inl (by decide)⟩
    rw [if_pos h]; rfl
  · obtain ⟨z, e, g⟩ := szRowS_l0 xs hx (by omega) xs.length 0 (1048576 - (xs.length : Int)) (by omega) (by omega) (by omega)
    rcases g with g | ⟨g, g'⟩
    · refine ⟨-1, fun k hk => ?_, Or.inl (by decide)⟩
      rw [if_neg h, show (0 : Int) = ((0 : Nat) : Int) from rfl, e k (by omega)]
      simp only [Option.bind_some]
      rw [if_pos (by omega)]
    · refine ⟨z, fun k hk => ?_, Or.inr ⟨g, by omega, fun y hy => g' y (by simpa using hy)⟩⟩
      rw [if_neg h, show (0 : Int) = ((0 : Nat) : Int) from rfl, e k (by omega)]
      simp only [Option.bind_some]
      rw [if_neg (by omega)]

theorem toRowS_l0 (xs : List RA) (hx : ∀ y ∈ xs, fits y) (hn : xs.length ≤ 1048576) (d : Nat) : ∀ (i k : Nat), i + d = xs.length → d + 1048578 < k →
    laws_toRowS.l0 k xs ((xs.take i).map conv ++ List.replicate d z40) (i : Int) = some (xs.map conv) := by
  induction d with
  | zero =>
    intro i k hi hk
    obtain ⟨k, rfl⟩ : ∃ m, k = m + 1 := ⟨k - 1, by omega⟩
    simp only [laws_toRowS.l0]
    rw [if_neg (by omega), List.take_of_length_le (by omega)]
    simp
  | succ d ih =>
    intro i k hi hk
    obtain ⟨k, rfl⟩ : ∃ m, k = m + 1 := ⟨k - 1, by omega⟩
    have hlt : i < xs.length := by omega
    obtain ⟨q0, q1, q2⟩ := hx xs[i] (List.getElem_mem hlt)
    have e : laws_toRow.f k xs[i].f0 xs[i].f1 xs[i].f2 = some (xs[i].f0, xs[i].f1, xs[i].f2) := by
      unfold laws_toRow.f
      rw [toIntS_f _ (by omega) k (by omega), toIntS_f _ (by omega) k (by omega), toIntS_f _ (by omega) k (by omega)]
      rfl
    simp only [laws_toRowS.l0]
    rw [if_pos (by omega), if_pos (by omega), rdA hlt, e]
    simp only [Option.bind_some]
    rw [if_pos (by simp; omega), Int.toNat_natCast, wrap_in (by omega) (by omega)]
    have hs : ((xs.take i).map conv ++ List.replicate (d + 1) z40).set i (⟨xs[i].f0, xs[i].f1, xs[i].f2⟩ : RT) = (xs.take (i + 1)).map conv ++ List.replicate d z40 := by
      rw [List.set_append_right _ _ (by simp; omega)]
      rw [List.take_succ_eq_append_getElem hlt, List.length_map, List.length_take, Nat.min_eq_left (by omega), Nat.sub_self, List.replicate_succ, List.set_cons_zero, List.map_append, List.append_assoc]
      rfl
    rw [hs, show (i : Int) + 1 = ((i + 1 : Nat) : Int) by omega]
    exact ih (i + 1) k (by omega) (by omega)

theorem toSystem_f (a b : Int) (xs : List RA) (hx : ∀ y ∈ xs, fits y) (hn : xs.length ≤ 1048576) (k : Nat) (hk : 2097154 < k) : laws_toSystem.f k a b xs = some (a, b, xs.map conv) := by
  unfold laws_toSystem.f laws_toRowS.f
  rw [if_pos (by omega), Int.toNat_natCast, if_pos (by omega)]
  have h := toRowS_l0 xs hx hn xs.length 0 k (by omega) (by omega)
  simp only [List.take_zero, List.map_nil, List.nil_append] at h
  rw [show (0 : Int) = ((0 : Nat) : Int) from rfl, h]
  rfl

theorem eqRow_same (x : RT) (h : fitsT x) (k : Nat) (hk : 1048577 < k) : laws_eqRow.f k x.f0 x.f1 x.f2 x.f0 x.f1 x.f2 = some true := by
  obtain ⟨h0, h1, h2⟩ := h
  unfold laws_eqRow.f
  rw [eqIntS_same _ (by omega) k (by omega), eqIntS_same _ (by omega) k (by omega), eqIntS_same _ (by omega) k (by omega)]
  rfl

theorem eqRowS_l0 (xs : List RT) (hx : ∀ y ∈ xs, fitsT y) (hn : xs.length ≤ 1048576) (d : Nat) : ∀ (i k : Nat), i + d = xs.length → d + 1048578 < k → laws_eqRowS.l0 k xs xs (i : Int) = some true := by
  induction d with
  | zero =>
    intro i k hi hk
    obtain ⟨k, rfl⟩ : ∃ m, k = m + 1 := ⟨k - 1, by omega⟩
    simp only [laws_eqRowS.l0]
    rw [if_neg (by omega)]
  | succ d ih =>
    intro i k hi hk
    obtain ⟨k, rfl⟩ : ∃ m, k = m + 1 := ⟨k - 1, by omega⟩
    have hlt : i < xs.length := by omega
    simp only [laws_eqRowS.l0]
    rw [if_pos (by omega), if_pos (by omega), if_pos (by omega), rdT hlt, eqRow_same _ (hx _ (List.getElem_mem hlt)) k (by omega)]
    simp only [Option.bind_some]
    rw [if_pos trivial, wrap_in (by omega) (by omega), show (i : Int) + 1 = ((i + 1 : Nat) : Int) by omega]
    exact ih (i + 1) k (by omega) (by omega)

theorem eqSystem_same (a b : Int) (xs : List RT) (hx : ∀ y ∈ xs, fitsT y) (hn : xs.length ≤ 1048576) (k : Nat) (hk : 2097154 < k) : laws_eqSystem.f k a b xs a b xs = some true := by
  unfold laws_eqSystem.f laws_eqRowS.f
  rw [if_pos rfl, if_pos rfl, if_pos rfl, show (0 : Int) = ((0 : Nat) : Int) from rfl, eqRowS_l0 xs hx hn xs.length 0 k (by omega) (by omega)]
  rfl

theorem conv_fits {xs : List RA} (h : ∀ y ∈ xs, fits y) : ∀ y ∈ xs.map conv, fitsT y := by
  intro y hy
  obtain ⟨x, hx, rfl⟩ := List.mem_map.1 hy
  exact h x hx

def inb (x : Int) : Bool := decide (0 ≤ x) && decide (x ≤ 1008)
def wide (xs : List Int) (n : Int) : Bool := xs.all inb && ((xs.length : Int) == n)

theorem rdI {xs : List Int} {i : Nat} (h : i < xs.length) : rd xs (i : Int) = xs[i] := by
  unfold rd
  rw [Int.toNat_natCast, List.getD_eq_getElem?_getD, List.getElem?_eq_getElem h]; rfl

theorem l01In_f (x : Int) : spec_l01In.f x 0 1008 = some (inb x) := by
  unfold spec_l01In.f inb
  by_cases h : x ≥ 0
  · rw [if_pos h]; simp [show (0 : Int) ≤ x from h]
  · rw [if_neg h]; simp [show ¬ (0 : Int) ≤ x from h]

theorem l13Wide_l0 (xs : List Int) (n : Int) (hn : xs.length ≤ 1048576) (d : Nat) : ∀ (i k : Nat), i + d = xs.length → d < k → spec_l13Wide.l0 k xs n (i : Int) = some ((xs.drop i).all inb && ((xs.length : Int) == n)) := by
  induction d with
  | zero =>
    intro i k hi hk
    obtain ⟨k, rfl⟩ : ∃ m, k = m + 1 := ⟨k - 1, by omega⟩
    simp only [spec_l13Wide.l0]
    rw [if_neg (by omega), List.drop_of_length_le (by omega)]; simp
  | succ d ih =>
    intro i k hi hk
    obtain ⟨k, rfl⟩ : ∃ m, k = m + 1 := ⟨k - 1, by omega⟩
    have hlt : i < xs.length := by omega
    simp only [spec_l13Wide.l0]
    rw [if_pos (by omega), if_pos (by omega), rdI hlt, l01In_f, List.drop_eq_getElem_cons hlt, List.all_cons]
    simp only [Option.bind_some]
    cases hb : inb xs[i]
    · rw [if_neg (by decide)]; simp
    · rw [if_pos rfl, wrap_in (by omega) (by omega), show (i : Int) + 1 = ((i + 1 : Nat) : Int) by omega, ih (i + 1) k (by omega) (by omega)]; simp

theorem l13Wide_f (xs : List Int) (n : Int) (hn : xs.length ≤ 1048576) (k : Nat) (hk : 1048577 < k) : spec_l13Wide.f k xs n = some (wide xs n) := by
  unfold spec_l13Wide.f
  rw [show (0 : Int) = ((0 : Nat) : Int) from rfl, l13Wide_l0 xs n hn xs.length 0 k (by omega) (by omega)]; rfl

theorem isScalar_f (x : Int) : impl_isScalar.f x = some (inb x) := by
  unfold impl_isScalar.f inb
  by_cases h : x ≥ 0
  · rw [if_pos h]
    have : decide (x < 1009) = decide (x ≤ 1008) := by rw [decide_eq_decide]; omega
    rw [this]; simp [show (0 : Int) ≤ x from h]
  · rw [if_neg h]; simp [show ¬ (0 : Int) ≤ x from h]

theorem areScalars_l0 (xs : List Int) (hn : xs.length ≤ 1048576) (d : Nat) : ∀ (i k : Nat), i + d = xs.length → d < k → impl_areScalars.l0 k xs (xs.length : Int) (i : Int) = some ((xs.drop i).all inb) := by
  induction d with
  | zero =>
    intro i k hi hk
    obtain ⟨k, rfl⟩ : ∃ m, k = m + 1 := ⟨k - 1, by omega⟩
    simp only [impl_areScalars.l0]
    rw [if_neg (by omega), List.drop_of_length_le (by omega)]; simp
  | succ d ih =>
    intro i k hi hk
    obtain ⟨k, rfl⟩ : ∃ m, k = m + 1 := ⟨k - 1, by omega⟩
    have hlt : i < xs.length := by omega
    simp only [impl_areScalars.l0]
    rw [if_pos (by omega), if_pos (by omega), if_pos (by omega), rdI hlt, isScalar_f, List.drop_eq_getElem_cons hlt, List.all_cons]
    simp only [Option.bind_some]
    cases hb : inb xs[i]
    · rw [if_neg (by decide)]; simp
    · rw [if_pos rfl, wrap_in (by omega) (by omega), show (i : Int) + 1 = ((i + 1 : Nat) : Int) by omega, ih (i + 1) k (by omega) (by omega)]; simp

theorem areScalars_f (xs : List Int) (hn : xs.length ≤ 1048576) (k : Nat) (hk : 1048577 < k) : impl_areScalars.f k xs = some (xs.all inb) := by
  unfold impl_areScalars.f
  have h := areScalars_l0 xs hn xs.length 0 k (by omega) (by omega)
  rw [List.drop_zero] at h
  exact h

def rowOk (n : Int) (x : RT) : Bool := wide x.f0 n && wide x.f1 n && wide x.f2 n
def sysOk (a b : Int) (xs : List RT) : Bool := decide (1 ≤ a) && decide (a ≤ 20) && decide (0 ≤ b) && decide (b ≤ a - 1) && decide (1 ≤ xs.length) && decide (xs.length ≤ 16) && xs.all (rowOk a)

theorem specOk_l0 (a b : Int) (xs : List RT) (hx : ∀ y ∈ xs, fitsT y) (hn : xs.length ≤ 1048576) (d : Nat) : ∀ (i k : Nat), i + d = xs.length → d + 1048578 < k →
    spec_SystemOk.l0 k (i : Int) a b xs = some ((xs.drop i).all (rowOk a)) := by
  induction d with
  | zero =>
    intro i k hi hk
    obtain ⟨k, rfl⟩ : ∃ m, k = m + 1 := ⟨k - 1, by omega⟩
    simp only [spec_SystemOk.l0]
    rw [if_neg (by omega), List.drop_of_length_le (by omega)]; simp
  | succ d ih =>
    intro i k hi hk
    obtain ⟨k, rfl⟩ : ∃ m, k = m + 1 := ⟨k - 1, by omega⟩
    have hlt : i < xs.length := by omega
    obtain ⟨q0, q1, q2⟩ := hx xs[i] (List.getElem_mem hlt)
    simp only [spec_SystemOk.l0]
    rw [if_pos (by omega), if_pos (by omega), rdT hlt, l13Wide_f _ _ q0 k (by omega), l13Wide_f _ _ q1 k (by omega), l13Wide_f _ _ q2 k (by omega), List.drop_eq_getElem_cons hlt, List.all_cons]
    simp only [Option.bind_some]
    rw [wrap_in (by omega) (by omega), show (i : Int) + 1 = ((i + 1 : Nat) : Int) by omega, ih (i + 1) k (by omega) (by omega)]
    unfold rowOk
    cases wide xs[i].f0 a <;> cases wide xs[i].f1 a <;> cases wide xs[i].f2 a <;> simp

theorem specOk_f (a b : Int) (xs : List RT) (ha : -9223372036854775808 ≤ a) (hx : ∀ y ∈ xs, fitsT y) (hn : xs.length ≤ 1048576) (k : Nat) (hk : 2097156 < k) : spec_SystemOk.f k a b xs = some (sysOk a b xs) := by
  obtain ⟨k, rfl⟩ : ∃ m, k = m + 1 := ⟨k - 1, by omega⟩
  have h0 := specOk_l0 a b xs hx hn xs.length 0 k (by omega) (by omega)
  rw [List.drop_zero, Int.ofNat_zero] at h0
  unfold spec_SystemOk.f spec_l01In.f sysOk
  by_cases c1 : a ≥ 1
  · rw [if_pos c1, decide_eq_true (show 1 ≤ a from c1)]
    simp only [Option.bind_some]
    by_cases c2 : a ≤ 20
    · rw [decide_eq_true c2, if_pos rfl, wrap_in (by omega) (by omega)]
      by_cases c3 : b ≥ 0
      · rw [if_pos c3, decide_eq_true (show 0 ≤ b from c3)]
        simp only [Option.bind_some]
        by_cases c4 : b ≤ a - 1
        · rw [decide_eq_true c4, if_pos rfl]
          by_cases c5 : 1 ≤ xs.length
          · rw [if_pos (by omega), decide_eq_true c5]
            simp only [Option.bind_some, spec_SystemOk.j0]
            by_cases c6 : xs.length ≤ 16
            · rw [decide_eq_true (show (xs.length : Int) ≤ 16 by omega), decide_eq_true c6, if_neg (by decide), h0]; simp
            · rw [decide_eq_false (show ¬ (xs.length : Int) ≤ 16 by omega), decide_eq_false c6, if_pos (by decide)]; simp
          · rw [if_neg (by omega), decide_eq_false c5]
            simp [spec_SystemOk.j0]
        · rw [decide_eq_false c4, if_neg (by decide)]; simp [spec_SystemOk.j0]
      · rw [if_neg c3, decide_eq_false (show ¬ 0 ≤ b from c3)]; simp [spec_SystemOk.j0]
    · rw [decide_eq_false c2, if_neg (by decide)]; simp [spec_SystemOk.j0]
  · rw [if_neg c1, decide_eq_false (show ¬ 1 ≤ a from c1)]; simp [spec_SystemOk.j0]

theorem implOk_l0 (a b : Int) (xs zs : List RT) (hx : ∀ y ∈ xs, fitsT y) (hn : xs.length ≤ 1048576) (d : Nat) : ∀ (i k : Nat), i + d = xs.length → 3 * d + 1048590 < k →
    impl_SystemOk.l0 k xs (xs.length : Int) (i : Int) a b zs = some ((xs.drop i).all (rowOk a)) := by
  induction d with
  | zero =>
    intro i k hi hk
    obtain ⟨k, rfl⟩ : ∃ m, k = m + 1 := ⟨k - 1, by omega⟩
    simp only [impl_SystemOk.l0]
    rw [if_neg (by omega), List.drop_of_length_le (by omega)]; simp
  | succ d ih =>
    intro i k hi hk
    obtain ⟨k, rfl⟩ : ∃ m, k = m + 3 := ⟨k - 3, by omega⟩
    have hlt : i < xs.length := by omega
    obtain ⟨q0, q1, q2⟩ := hx xs[i] (List.getElem_mem hlt)
    simp only [impl_SystemOk.l0, impl_SystemOk.j3, impl_SystemOk.j4]
    rw [if_pos (by omega), if_pos (by omega), if_pos (by omega), rdT hlt, areScalars_f _ q0 (k + 2) (by omega), areScalars_f _ q1 (k + 1) (by omega), areScalars_f _ q2 k (by omega), List.drop_eq_getElem_cons hlt, List.all_cons]
    simp only [Option.bind_some]
    rw [wrap_in (by omega) (by omega), show (i : Int) + 1 = ((i + 1 : Nat) : Int) by omega, ih (i + 1) k (by omega) (by omega)]
    unfold rowOk wide
    by_cases c0 : (xs[i].f0.length : Int) = a <;> by_cases c1 : (xs[i].f1.length : Int) = a <;> by_cases c2 : (xs[i].f2.length : Int) = a <;>
      cases xs[i].f0.all inb <;> cases xs[i].f1.all inb <;> cases xs[i].f2.all inb <;> simp [c0, c1, c2]

theorem implOk_f (a b : Int) (xs : List RT) (ha : -9223372036854775808 ≤ a) (hx : ∀ y ∈ xs, fitsT y) (hn : xs.length ≤ 1048576) (k : Nat) (hk : 4194400 < k) : impl_SystemOk.f k a b xs = some (sysOk a b xs) := by
  obtain ⟨k, rfl⟩ : ∃ m, k = m + 2 := ⟨k - 2, by omega⟩
  have h0 := implOk_l0 a b xs xs hx hn xs.length 0 k (by omega) (by omega)
  rw [List.drop_zero, Int.ofNat_zero] at h0
  unfold impl_SystemOk.f sysOk
  by_cases c1 : 1 ≤ a
  · rw [if_neg (by omega), decide_eq_true c1]
    by_cases c2 : a ≤ 20
    · rw [if_neg (by omega), decide_eq_true c2, wrap_in (by omega) (by omega)]
      by_cases c3 : 0 ≤ b
      · rw [if_neg (by omega), decide_eq_true c3]
        simp only [impl_SystemOk.j0, impl_SystemOk.j1]
        by_cases c4 : b ≤ a - 1
        · rw [decide_eq_false (show ¬ b > a - 1 by omega), decide_eq_true c4, if_neg (by decide)]
          by_cases c5 : 1 ≤ xs.length
          · rw [if_neg (by omega), decide_eq_true c5]
            by_cases c6 : xs.length ≤ 16
            · rw [decide_eq_false (show ¬ (xs.length : Int) > 16 by omega), decide_eq_true c6, if_neg (by decide), h0]; simp
            · rw [decide_eq_true (show (xs.length : Int) > 16 by omega), decide_eq_false c6]; simp
          · rw [if_pos (by omega), decide_eq_false c5]; simp
        · rw [decide_eq_true (show b > a - 1 by omega), decide_eq_false c4]; simp
      · rw [if_pos (by omega), decide_eq_false c3]; simp [impl_SystemOk.j0]
    · rw [if_pos (by omega), decide_eq_false c2]; simp [impl_SystemOk.j0]
  · rw [if_pos (by omega), decide_eq_false c1]; simp [impl_SystemOk.j0]
end Go.Proofs.Ytcnejiflpioaiaa.Sys
end
section
/- What is proved here: the program's QapOf and the reference's are one plain function; what the helpers over systems and over lists of lists answer. No conditions but sizes. -/
set_option linter.unusedVariables false
set_option linter.unusedSimpArgs false
namespace Go.Proofs.Ytcnejiflpioaiaa.QapX
open Go.RowKit Go.Proofs.Ytcnejiflpioaiaa.Pf Go.Proofs.YtcnejiflpioaiaaW.PrintWords Go.Proofs.Ytcnejiflpioaiaa.Ints Go.Proofs.Ytcnejiflpioaiaa.Poly
open Go.Proofs.Ytcnejiflpioaiaa.Sys (RT rdT sysOk rowOk wide inb fitsT)
set_option maxRecDepth 4000

theorem rdL {us : List (List Int)} {i : Nat} (h : i < us.length) : rd_L1 us (i : Int) = us[i] := by
  unfold rd_L1
  rw [Int.toNat_natCast, List.getD_eq_getElem?_getD, List.getElem?_eq_getElem h]; rfl
def colA (rows : List RT) (j : Nat) : List Int := rows.map (fun r => at_ r.f0 j)
def colB (rows : List RT) (j : Nat) : List Int := rows.map (fun r => at_ r.f1 j)
def colC (rows : List RT) (j : Nat) : List Int := rows.map (fun r => at_ r.f2 j)
def qA (rows : List RT) (n : Nat) : List (List Int) := (List.range n).map (fun j => pthrough (colA rows j))
def qB (rows : List RT) (n : Nat) : List (List Int) := (List.range n).map (fun j => pthrough (colB rows j))
def qC (rows : List RT) (n : Nat) : List (List Int) := (List.range n).map (fun j => pthrough (colC rows j))
theorem q_succ (f : Nat → List Int) (n : Nat) : (List.range (n + 1)).map f = (List.range n).map f ++ [f n] := by simp [List.range_succ]
theorem wide_of {xs : List Int} {n : Int} (h : wide xs n = true) : (xs.length : Int) = n ∧ ∀ x ∈ xs, 0 ≤ x ∧ x ≤ 1008 := by
  unfold wide at h
  rw [Bool.and_eq_true, List.all_eq_true] at h
  refine ⟨by simpa using h.2, fun x hx => ?_⟩
  have := h.1 x hx
  unfold inb at this
  simpa using this
/-- a right system -/
structure Fine (n : Nat) (rows : List RT) : Prop where
  n1 : 1 ≤ n
  n2 : n ≤ 20
  m1 : 1 ≤ rows.length
  m2 : rows.length ≤ 16
  all : ∀ r ∈ rows, (r.f0.length = n ∧ ∀ x ∈ r.f0, 0 ≤ x ∧ x ≤ 1008) ∧ (r.f1.length = n ∧ ∀ x ∈ r.f1, 0 ≤ x ∧ x ≤ 1008) ∧ (r.f2.length = n ∧ ∀ x ∈ r.f2, 0 ≤ x ∧ x ≤ 1008)
theorem fine_of {a b : Int} {rows : List RT} (h : sysOk a b rows = true) : ∃ n : Nat, a = (n : Int) ∧ Fine n rows := by
  unfold sysOk at h
  simp only [Bool.and_eq_true, decide_eq_true_eq, List.all_eq_true] at h
  obtain ⟨⟨⟨⟨⟨⟨h1, h2⟩, h3⟩, h4⟩, h5⟩, h6⟩, h7⟩ := h
  refine ⟨a.toNat, by omega, by omega, by omega, h5, h6, fun r hr => ?_⟩
  have := h7 r hr
  unfold rowOk at this
  simp only [Bool.and_eq_true] at this
  obtain ⟨⟨w0, w1⟩, w2⟩ := this
  obtain ⟨l0, r0⟩ := wide_of w0
  obtain ⟨l1, r1⟩ := wide_of w1
  obtain ⟨l2, r2⟩ := wide_of w2
  exact ⟨⟨by omega, r0⟩, ⟨by omega, r1⟩, ⟨by omega, r2⟩⟩
theorem impl_QapOf_l1 {n : Nat} {rows : List RT} (hf : Fine n rows) (a0 a1 : Int) (j : Nat) (hj : j < n) (U V W : List (List Int)) (hU : U.length = j) (hV : V.length = j) (hW : W.length = j) (r)
    (next : Ev (fun k => impl_QapOf.l0 k (n : Int) ((j + 1 : Nat) : Int) a0 a1 rows (U ++ [pthrough (colA rows j)]) (V ++ [pthrough (colB rows j)]) (W ++ [pthrough (colC rows j)])) r) : ∀ (d i : Nat), i + d = rows.length →
    Ev (fun k => impl_QapOf.l1 k (j : Int) (colA (rows.take i) j) (colB (rows.take i) j) (colC (rows.take i) j) (n : Int) (j : Int) rows (rows.length : Int) (i : Int) a0 a1 rows U V W) r
  | 0, i, hi => by
    have := hf.n2
    obtain ⟨K1, h1⟩ := impl_PolyThrough_ev (colA rows j)
    obtain ⟨K2, h2⟩ := impl_PolyThrough_ev (colB rows j)
    obtain ⟨K3, h3⟩ := impl_PolyThrough_ev (colC rows j)
    obtain ⟨K4, h4⟩ := next
    refine ⟨K1 + K2 + K3 + K4 + 1, fun k hk => ?_⟩
    obtain ⟨k, rfl⟩ : ∃ m, k = m + 1 := ⟨k - 1, by omega⟩
    have e1 := h1 k (by omega)
    have e2 := h2 k (by omega)
    have e3 := h3 k (by omega)
    have e4 := h4 k (by omega)
    dsimp only at e1 e2 e3 e4
    simp only [impl_QapOf.l1]
    rw [if_neg (by omega), List.take_of_length_le (by omega), e1, Option.bind_some, if_pos (by omega), e2, Option.bind_some, if_pos (by omega), e3, Option.bind_some, if_pos (by omega), wrap_in (by omega) (by omega)]
    exact e4
  | d + 1, i, hi => by
    have hm := hf.m2
    have hlt : i < rows.length := by omega
    obtain ⟨⟨l0, _⟩, ⟨l1, _⟩, l2, _⟩ := hf.all rows[i] (List.getElem_mem hlt)
    have eA : colA (rows.take (i + 1)) j = colA (rows.take i) j ++ [at_ rows[i].f0 j] := by unfold colA; rw [List.take_succ_eq_append_getElem hlt, List.map_append]; rfl
    have eB : colB (rows.take (i + 1)) j = colB (rows.take i) j ++ [at_ rows[i].f1 j] := by unfold colB; rw [List.take_succ_eq_append_getElem hlt, List.map_append]; rfl
    have eC : colC (rows.take (i + 1)) j = colC (rows.take i) j ++ [at_ rows[i].f2 j] := by unfold colC; rw [List.take_succ_eq_append_getElem hlt, List.map_append]; rfl
    have q0 : (colA (rows.take i) j).length = i := by unfold colA; rw [List.length_map, List.length_take]; omega
    have q1 : (colB (rows.take i) j).length = i := by unfold colB; rw [List.length_map, List.length_take]; omega
    have q2 : (colC (rows.take i) j).length = i := by unfold colC; rw [List.length_map, List.length_take]; omega
    refine Ev.step (fun k => ?_) (impl_QapOf_l1 hf a0 a1 j hj U V W hU hV hW r next d (i + 1) (by omega))
    simp only [impl_QapOf.l1]
    rw [if_pos (by omega), if_pos (by omega), if_pos (by omega), if_pos (by omega), rdT hlt, if_pos (by omega), if_pos (by omega), if_pos (by omega), if_pos (by omega), if_pos (by omega), if_pos (by omega), rd_at, rd_at, rd_at, wrap_in (by omega) (by omega), eA, eB, eC]
    rfl
theorem impl_QapOf_l0 {n : Nat} {rows : List RT} (hf : Fine n rows) (a0 a1 : Int) : ∀ (d j : Nat), j + d = n →
    Ev (fun k => impl_QapOf.l0 k (n : Int) (j : Int) a0 a1 rows (qA rows j) (qB rows j) (qC rows j)) (qA rows n, qB rows n, qC rows n, true)
  | 0, j, hj => Ev.one fun k => by
    simp only [impl_QapOf.l0]
    rw [if_neg (by omega), show j = n by omega]
  | d + 1, j, hj => by
    have hn := hf.n2
    refine Ev.step (fun k => ?_) (impl_QapOf_l1 hf a0 a1 j (by omega) (qA rows j) (qB rows j) (qC rows j) (by simp [qA]) (by simp [qB]) (by simp [qC]) _ (by
      have ih := impl_QapOf_l0 hf a0 a1 d (j + 1) (by omega)
      unfold qA qB qC at ih
      rw [q_succ, q_succ, q_succ] at ih
      exact ih) rows.length 0 (by omega))
    simp only [impl_QapOf.l0]
    rw [if_pos (by omega)]
    rfl
theorem fits_fine {n : Nat} {rows : List RT} (hf : Fine n rows) : ∀ y ∈ rows, fitsT y := fun y hy => by
  have hn := hf.n2
  obtain ⟨⟨l0, _⟩, ⟨l1, _⟩, l2, _⟩ := hf.all y hy
  exact ⟨by omega, by omega, by omega⟩
theorem impl_QapOf_right {a b : Int} {rows : List RT} (h : sysOk a b rows = true) : ∃ n : Nat, a = (n : Int) ∧ Fine n rows ∧ Ev (fun k => impl_QapOf.f k a b rows) (qA rows n, qB rows n, qC rows n, true) := by
  obtain ⟨n, rfl, hf⟩ := fine_of h
  refine ⟨n, rfl, hf, ?_⟩
  obtain ⟨K, e⟩ := impl_QapOf_l0 hf (n : Int) b n 0 (by omega)
  have hm := hf.m2
  refine ⟨K + 4194401, fun k hk => ?_⟩
  have g := e k (by omega)
  dsimp only at g ⊢
  unfold impl_QapOf.f
  rw [Sys.implOk_f _ _ _ (by omega) (fits_fine hf) (by omega) k (by omega), Option.bind_some, h, if_pos rfl]
  exact g
theorem spec_QapOf_l1 {n : Nat} {rows : List RT} (hf : Fine n rows) (a1 : Int) (j : Nat) (hj : j < n) (U V W : List (List Int)) (hU : U.length = j) (hV : V.length = j) (hW : W.length = j) (r)
    (next : Ev (fun k => spec_QapOf.l0 k ((j + 1 : Nat) : Int) (n : Int) a1 rows (U ++ [pthrough (colA rows j)]) (V ++ [pthrough (colB rows j)]) (W ++ [pthrough (colC rows j)])) r) : ∀ (d i : Nat), i + d = rows.length →
    Ev (fun k => spec_QapOf.l1 k (j : Int) (colA (rows.take i) j) (colB (rows.take i) j) (colC (rows.take i) j) (i : Int) (n : Int) a1 rows U V W) r
  | 0, i, hi => by
    have := hf.n2
    obtain ⟨K1, h1⟩ := spec_PolyThrough_ev (colA rows j)
    obtain ⟨K2, h2⟩ := spec_PolyThrough_ev (colB rows j)
    obtain ⟨K3, h3⟩ := spec_PolyThrough_ev (colC rows j)
    obtain ⟨K4, h4⟩ := next
    refine ⟨K1 + K2 + K3 + K4 + 1, fun k hk => ?_⟩
    obtain ⟨k, rfl⟩ : ∃ m, k = m + 1 := ⟨k - 1, by omega⟩
    have e1 := h1 k (by omega)
    have e2 := h2 k (by omega)
    have e3 := h3 k (by omega)
    have e4 := h4 k (by omega)
    dsimp only at e1 e2 e3 e4
    simp only [spec_QapOf.l1]
    rw [if_neg (by omega), List.take_of_length_le (by omega), e1, Option.bind_some, if_pos (by omega), e2, Option.bind_some, if_pos (by omega), e3, Option.bind_some, if_pos (by omega), wrap_in (by omega) (by omega)]
    exact e4
  | d + 1, i, hi => by
    have hm := hf.m2
    have hlt : i < rows.length := by omega
    obtain ⟨⟨l0, _⟩, ⟨l1, _⟩, l2, _⟩ := hf.all rows[i] (List.getElem_mem hlt)
    have eA : colA (rows.take (i + 1)) j = colA (rows.take i) j ++ [at_ rows[i].f0 j] := by unfold colA; rw [List.take_succ_eq_append_getElem hlt, List.map_append]; rfl
    have eB : colB (rows.take (i + 1)) j = colB (rows.take i) j ++ [at_ rows[i].f1 j] := by unfold colB; rw [List.take_succ_eq_append_getElem hlt, List.map_append]; rfl
    have eC : colC (rows.take (i + 1)) j = colC (rows.take i) j ++ [at_ rows[i].f2 j] := by unfold colC; rw [List.take_succ_eq_append_getElem hlt, List.map_append]; rfl
    have q0 : (colA (rows.take i) j).length = i := by unfold colA; rw [List.length_map, List.length_take]; omega
    have q1 : (colB (rows.take i) j).length = i := by unfold colB; rw [List.length_map, List.length_take]; omega
    have q2 : (colC (rows.take i) j).length = i := by unfold colC; rw [List.length_map, List.length_take]; omega
    refine Ev.step (fun k => ?_) (spec_QapOf_l1 hf a1 j hj U V W hU hV hW r next d (i + 1) (by omega))
    simp only [spec_QapOf.l1]
    rw [if_pos (by omega), if_pos (by omega), if_pos (by omega), rdT hlt, if_pos (by omega), if_pos (by omega), if_pos (by omega), if_pos (by omega), if_pos (by omega), if_pos (by omega), rd_at, rd_at, rd_at, wrap_in (by omega) (by omega), eA, eB, eC]
    rfl
theorem spec_QapOf_l0 {n : Nat} {rows : List RT} (hf : Fine n rows) (a1 : Int) : ∀ (d j : Nat), j + d = n →
    Ev (fun k => spec_QapOf.l0 k (j : Int) (n : Int) a1 rows (qA rows j) (qB rows j) (qC rows j)) (qA rows n, qB rows n, qC rows n, true)
  | 0, j, hj => Ev.one fun k => by
    simp only [spec_QapOf.l0]
    rw [if_neg (by omega), show j = n by omega]
  | d + 1, j, hj => by
    have hn := hf.n2
    refine Ev.step (fun k => ?_) (spec_QapOf_l1 hf a1 j (by omega) (qA rows j) (qB rows j) (qC rows j) (by simp [qA]) (by simp [qB]) (by simp [qC]) _ (by
      have ih := spec_QapOf_l0 hf a1 d (j + 1) (by omega)
      unfold qA qB qC at ih
      rw [q_succ, q_succ, q_succ] at ih
      exact ih) rows.length 0 (by omega))
    simp only [spec_QapOf.l0]
    rw [if_pos (by omega)]
    rfl
theorem spec_QapOf_right {a b : Int} {rows : List RT} (h : sysOk a b rows = true) : ∃ n : Nat, a = (n : Int) ∧ Fine n rows ∧ Ev (fun k => spec_QapOf.f k a b rows) (qA rows n, qB rows n, qC rows n, true) := by
  obtain ⟨n, rfl, hf⟩ := fine_of h
  refine ⟨n, rfl, hf, ?_⟩
  obtain ⟨K, e⟩ := spec_QapOf_l0 hf b n 0 (by omega)
  have hm := hf.m2
  refine ⟨K + 4194401, fun k hk => ?_⟩
  have g := e k (by omega)
  dsimp only at g ⊢
  unfold spec_QapOf.f
  rw [Sys.specOk_f _ _ _ (by omega) (fits_fine hf) (by omega) k (by omega), Option.bind_some, h, if_pos rfl]
  exact g
def tot : List (List Int) → Nat
  | [] => 0
  | x :: xs => x.length + tot xs
theorem tot_mem {xs : List (List Int)} {x : List Int} (h : x ∈ xs) : x.length ≤ tot xs := by
  induction xs with
  | nil => cases h
  | cons y ys ih =>
    rw [tot]
    rcases List.mem_cons.1 h with rfl | h
    · omega
    · have := ih h; omega
theorem tot_drop (xs : List (List Int)) {i : Nat} (h : i < xs.length) : tot (xs.drop i) = xs[i].length + tot (xs.drop (i + 1)) := by
  rw [List.drop_eq_getElem_cons h, tot]
theorem eqIntSS_l0 (xs : List (List Int)) (hx : ∀ y ∈ xs, y.length ≤ 1048576) (hn : xs.length ≤ 1048576) (d : Nat) : ∀ (i k : Nat), i + d = xs.length → d + 1048577 < k → laws_eqIntSS.l0 k xs xs (i : Int) = some true := by
  induction d with
  | zero =>
    intro i k hi hk
    obtain ⟨k, rfl⟩ : ∃ m, k = m + 1 := ⟨k - 1, by omega⟩
    simp only [laws_eqIntSS.l0]
    rw [if_neg (by omega)]
  | succ d ih =>
    intro i k hi hk
    obtain ⟨k, rfl⟩ : ∃ m, k = m + 1 := ⟨k - 1, by omega⟩
    have hlt : i < xs.length := by omega
    have q := hx xs[i] (List.getElem_mem hlt)
    simp only [laws_eqIntSS.l0]
    rw [if_pos (by omega), if_pos (by omega), if_pos (by omega), rdL hlt, eqIntS_same _ (by omega) k (by omega), Option.bind_some, if_pos rfl, wrap_in (by omega) (by omega), show (i : Int) + 1 = ((i + 1 : Nat) : Int) by omega]
    exact ih (i + 1) k (by omega) (by omega)
theorem eqIntSS_same (xs : List (List Int)) (hx : ∀ y ∈ xs, y.length ≤ 1048576) (hn : xs.length ≤ 1048576) (k : Nat) (hk : 2097154 < k) : laws_eqIntSS.f k xs xs = some true := by
  unfold laws_eqIntSS.f
  rw [if_pos rfl]
  exact eqIntSS_l0 xs hx hn xs.length 0 k (by omega) (by omega)
/-- the lists, marked one behind the other -/
def marked : Int → List (List Int) → List (List Int)
  | _, [] => []
  | m, x :: xs => marks m x.length :: marked (m + (x.length : Int)) xs
theorem markIntSS_l0 (hn : True) : ∀ (rest done : List (List Int)) (m : Int) (k : Nat), 0 ≤ m → m + (tot rest : Int) ≤ 4611686018427387903 → done.length + rest.length ≤ 1048576 → (∀ y ∈ rest, y.length ≤ 1048576) → rest.length + 1048577 < k →
    laws_markIntSS.l0 k (done ++ rest) m (done.length : Int) = some (m + (tot rest : Int), done ++ marked m rest)
  | [], done, m, k, h0, h1, h2, hx, hk => by
    obtain ⟨k, rfl⟩ : ∃ m, k = m + 1 := ⟨k - 1, by omega⟩
    simp only [laws_markIntSS.l0]
    rw [if_neg (by simp), marked, tot]
    simp
  | x :: rest, done, m, k, h0, h1, h2, hx, hk => by
    obtain ⟨k, rfl⟩ : ∃ m, k = m + 1 := ⟨k - 1, by omega⟩
    rw [List.length_cons] at h2 hk
    rw [tot] at h1
    have q := hx x List.mem_cons_self
    have ih := markIntSS_l0 hn rest (done ++ [marks m x.length]) (m + (x.length : Int)) k (by omega) (by omega) (by rw [List.length_append, List.length_singleton]; omega) (fun y hy => hx y (List.mem_cons_of_mem _ hy)) (by omega)
    have e1 : laws_markIntSS.rd (done ++ x :: rest) (done.length : Int) = x := by
      unfold laws_markIntSS.rd
      rw [Int.toNat_natCast, List.getD_eq_getElem?_getD, List.getElem?_append_right (Nat.le_refl _), Nat.sub_self]
      rfl
    simp only [laws_markIntSS.l0]
    rw [if_pos (by rw [List.length_append, List.length_cons]; omega), if_pos (by omega), e1, markIntS_f m h0 (by omega) x (by omega) k (by omega), Option.bind_some, wrap_in (by omega) (by omega), Int.toNat_natCast, List.set_append_right _ _ (Nat.le_refl _), Nat.sub_self, List.set_cons_zero, tot, marked]
    rw [List.length_append, List.length_singleton, List.append_assoc, List.append_assoc, List.singleton_append, List.singleton_append] at ih
    rw [show (done.length : Int) + 1 = ((done.length + 1 : Nat) : Int) by omega, ih]
    congr 2
    omega
theorem markIntSS_g (xs : List (List Int)) (m : Int) (h0 : 0 ≤ m) (h1 : m + (tot xs : Int) ≤ 4611686018427387903) (hn : xs.length ≤ 1048576) (hx : ∀ y ∈ xs, y.length ≤ 1048576) (k : Nat) (hk : 2097154 < k) : laws_markIntSS.g k xs m = some (m + (tot xs : Int), marked m xs) := by
  have h := markIntSS_l0 trivial xs [] m k h0 h1 (by simpa using hn) hx (by omega)
  exact h
theorem markIntSS_f (xs : List (List Int)) (m : Int) (h0 : 0 ≤ m) (h1 : m + (tot xs : Int) ≤ 4611686018427387903) (hn : xs.length ≤ 1048576) (hx : ∀ y ∈ xs, y.length ≤ 1048576) (k : Nat) (hk : 2097154 < k) : laws_markIntSS.f k xs m = some (m + (tot xs : Int)) := by
  unfold laws_markIntSS.f
  rw [markIntSS_g xs m h0 h1 hn hx k hk]; rfl
theorem col_len (f : Nat → List Int) (hf : ∀ j, (f j).length ≤ 128) (n : Nat) : ∀ y ∈ (List.range n).map f, y.length ≤ 128 := fun y hy => by
  obtain ⟨j, _, rfl⟩ := List.mem_map.1 hy
  exact hf j
theorem tot_le (c : Nat) : ∀ (xs : List (List Int)), (∀ y ∈ xs, y.length ≤ c) → tot xs ≤ c * xs.length
  | [], _ => by simp [tot]
  | x :: xs, h => by
    have := tot_le c xs (fun y hy => h y (List.mem_cons_of_mem _ hy))
    have := h x List.mem_cons_self
    rw [tot, List.length_cons, Nat.mul_succ]
    omega
theorem marked_length : ∀ (m : Int) (xs : List (List Int)), (marked m xs).length = xs.length
  | _, [] => rfl
  | m, x :: xs => by rw [marked, List.length_cons, List.length_cons, marked_length]
theorem heldIntSS_l0 : ∀ (rest done : List (List Int)) (m : Int) (k : Nat), 0 ≤ m → m + (tot rest : Int) ≤ 4611686018427387903 → done.length + rest.length ≤ 1048576 → (∀ y ∈ rest, y.length ≤ 1048576) → rest.length + 1048577 < k →
    laws_heldIntSS.l0 k (done ++ marked m rest) m (done.length : Int) = some (m + (tot rest : Int))
  | [], done, m, k, h0, h1, h2, hx, hk => by
    obtain ⟨k, rfl⟩ : ∃ m, k = m + 1 := ⟨k - 1, by omega⟩
    simp only [laws_heldIntSS.l0]
    rw [if_neg (by simp [marked]), tot]
    simp
  | x :: rest, done, m, k, h0, h1, h2, hx, hk => by
    obtain ⟨k, rfl⟩ : ∃ m, k = m + 1 := ⟨k - 1, by omega⟩
    rw [List.length_cons] at h2 hk
    rw [tot] at h1
    have q := hx x List.mem_cons_self
    have ih := heldIntSS_l0 rest (done ++ [marks m x.length]) (m + (x.length : Int)) k (by omega) (by omega) (by rw [List.length_append, List.length_singleton]; omega) (fun y hy => hx y (List.mem_cons_of_mem _ hy)) (by omega)
    have hlt : done.length < (done ++ marks m x.length :: marked (m + (x.length : Int)) rest).length := by rw [List.length_append, List.length_cons]; omega
    have e1 : rd_L1 (done ++ marks m x.length :: marked (m + (x.length : Int)) rest) (done.length : Int) = marks m x.length := by
      rw [rdL hlt, List.getElem_append_right (Nat.le_refl _)]
      simp
    simp only [laws_heldIntSS.l0]
    rw [marked, if_pos (by omega), if_pos (by omega), e1, heldIntS_f m h0 (by omega) x.length (by omega) k (by omega), Option.bind_some, if_neg (by omega), wrap_in (by omega) (by omega)]
    rw [List.length_append, List.length_singleton, List.append_assoc, List.singleton_append] at ih
    rw [show (done.length : Int) + 1 = ((done.length + 1 : Nat) : Int) by omega, ih, tot]
    congr 1
    omega
theorem heldIntSS_f (xs : List (List Int)) (m : Int) (h0 : 0 ≤ m) (h1 : m + (tot xs : Int) ≤ 4611686018427387903) (hn : xs.length ≤ 1048576) (hx : ∀ y ∈ xs, y.length ≤ 1048576) (k : Nat) (hk : 2097154 < k) : laws_heldIntSS.f k (marked m xs) m = some (m + (tot xs : Int)) := by
  have h := heldIntSS_l0 xs [] m k h0 h1 (by simpa using hn) hx (by omega)
  exact h
/-- a right answer: three lists of short lists -/
structure Three (us vs ws : List (List Int)) : Prop where
  u : us.length ≤ 20 ∧ ∀ y ∈ us, y.length ≤ 128
  v : vs.length ≤ 20 ∧ ∀ y ∈ vs, y.length ≤ 128
  w : ws.length ≤ 20 ∧ ∀ y ∈ ws, y.length ≤ 128
theorem eqQap_same {us vs ws : List (List Int)} (h : Three us vs ws) (k : Nat) (hk : 2097154 < k) : laws_eqQap.f k us vs ws us vs ws = some true := by
  unfold laws_eqQap.f
  rw [eqIntSS_same us (fun y hy => by have := h.u.2 y hy; omega) (by have := h.u.1; omega) k hk, Option.bind_some, if_pos rfl, eqIntSS_same vs (fun y hy => by have := h.v.2 y hy; omega) (by have := h.v.1; omega) k hk, Option.bind_some, if_pos rfl, eqIntSS_same ws (fun y hy => by have := h.w.2 y hy; omega) (by have := h.w.1; omega) k hk, Option.bind_some, if_pos rfl]
theorem markQap_held {us vs ws : List (List Int)} (h : Three us vs ws) : ∃ (m : Int) (a b c : List (List Int)), 0 ≤ m ∧ (∀ k, 2097154 < k → laws_markQap.g k us vs ws 1 = some (m, a, b, c)) ∧ (∀ k, 2097154 < k → laws_heldQap.f k a b c 1 = some m) := by
  have tu := tot_le 128 us h.u.2
  have tv := tot_le 128 vs h.v.2
  have tw := tot_le 128 ws h.w.2
  have lu := h.u.1
  have lv := h.v.1
  have lw := h.w.1
  have xu : ∀ y ∈ us, y.length ≤ 1048576 := fun y hy => by have := h.u.2 y hy; omega
  have xv : ∀ y ∈ vs, y.length ≤ 1048576 := fun y hy => by have := h.v.2 y hy; omega
  have xw : ∀ y ∈ ws, y.length ≤ 1048576 := fun y hy => by have := h.w.2 y hy; omega
  refine ⟨1 + (tot us : Int) + (tot vs : Int) + (tot ws : Int), marked 1 us, marked (1 + (tot us : Int)) vs, marked (1 + (tot us : Int) + (tot vs : Int)) ws, by omega, fun k hk => ?_, fun k hk => ?_⟩
  · unfold laws_markQap.g
    rw [markIntSS_g us 1 (by omega) (by omega) (by omega) xu k hk, Option.bind_some, markIntSS_g vs _ (by dsimp only; omega) (by dsimp only; omega) (by omega) xv k hk, Option.bind_some, markIntSS_g ws _ (by dsimp only; omega) (by dsimp only; omega) (by omega) xw k hk, Option.bind_some]
  · unfold laws_heldQap.f
    rw [heldIntSS_f us 1 (by omega) (by omega) (by omega) xu k hk, Option.bind_some, if_neg (by omega), heldIntSS_f vs _ (by omega) (by omega) (by omega) xv k hk, Option.bind_some, if_neg (by omega), heldIntSS_f ws _ (by omega) (by omega) (by omega) xw k hk, Option.bind_some, if_neg (by omega)]
theorem markRowS_l0 : ∀ (d : Nat) (xs : List RT) (i : Nat) (m : Int) (k : Nat), i + d = xs.length → 0 ≤ m → m + 3145728 * (d : Int) ≤ 4611686018427380000 → xs.length ≤ 1048576 → (∀ y ∈ xs, fitsT y) → d + 1048577 < k →
    ∃ (m' : Int) (ys : List RT), 0 ≤ m' ∧ laws_markRowS.l0 k xs m (i : Int) = some (m', ys)
  | 0, xs, i, m, k, hi, h0, h1, h2, hx, hk => by
    obtain ⟨k, rfl⟩ : ∃ m, k = m + 1 := ⟨k - 1, by omega⟩
    refine ⟨m, xs, h0, ?_⟩
    simp only [laws_markRowS.l0]
    rw [if_neg (by omega)]
  | d + 1, xs, i, m, k, hi, h0, h1, h2, hx, hk => by
    obtain ⟨k, rfl⟩ : ∃ m, k = m + 1 := ⟨k - 1, by omega⟩
    have hlt : i < xs.length := by omega
    obtain ⟨q0, q1, q2⟩ := hx xs[i] (List.getElem_mem hlt)
    have e1 : laws_markRowS.rd xs (i : Int) = xs[i] := by
      unfold laws_markRowS.rd
      rw [Int.toNat_natCast, List.getD_eq_getElem?_getD, List.getElem?_eq_getElem hlt]; rfl
    obtain ⟨m', ys, g0, g⟩ := markRowS_l0 d (xs.set i (⟨marks m xs[i].f0.length, marks (m + (xs[i].f0.length : Int)) xs[i].f1.length, marks (m + (xs[i].f0.length : Int) + (xs[i].f1.length : Int)) xs[i].f2.length⟩ : RT)) (i + 1) (m + (xs[i].f0.length : Int) + (xs[i].f1.length : Int) + (xs[i].f2.length : Int)) k (by rw [List.length_set]; omega) (by omega) (by omega) (by rw [List.length_set]; exact h2) (fun y hy => by
      rcases List.mem_or_eq_of_mem_set hy with hy | rfl
      · exact hx y hy
      · exact ⟨by rw [marks_length]; exact q0, by rw [marks_length]; exact q1, by rw [marks_length]; exact q2⟩) (by omega)
    refine ⟨m', ys, g0, ?_⟩
    simp only [laws_markRowS.l0]
    rw [if_pos (by omega), if_pos (by omega), e1, markIntS_f m h0 (by omega) _ (by omega) k (by omega), Option.bind_some, markIntS_f _ (by dsimp only; omega) (by dsimp only; omega) _ (by omega) k (by omega), Option.bind_some, markIntS_f _ (by dsimp only; omega) (by dsimp only; omega) _ (by omega) k (by omega), Option.bind_some, wrap_in (by omega) (by omega), Int.toNat_natCast, show (i : Int) + 1 = ((i + 1 : Nat) : Int) by omega]
    exact g
theorem markSystem_g (a b : Int) (xs : List RT) (h2 : xs.length ≤ 1048576) (hx : ∀ y ∈ xs, fitsT y) (k : Nat) (hk : 2097155 < k) : ∃ (m : Int) (ys : List RT), 0 ≤ m ∧ laws_markSystem.g k a b xs 1 = some (m, ys) :=
  markRowS_l0 xs.length xs 0 1 k (by omega) (by omega) (by omega) h2 hx (by omega)
theorem qap_wrong {a b : Int} {rows : List RT} (ha : -9223372036854775808 ≤ a) (hx : ∀ y ∈ rows, fitsT y) (hn : rows.length ≤ 1048576) (h : sysOk a b rows = false) : (∀ k, 5000000 < k → impl_QapOf.f k a b rows = some ([], [], [], false)) ∧ (∀ k, 5000000 < k → spec_QapOf.f k a b rows = some ([], [], [], false)) := by
  refine ⟨fun k hk => ?_, fun k hk => ?_⟩
  · unfold impl_QapOf.f
    rw [Sys.implOk_f a b rows ha hx hn k (by omega), Option.bind_some, h, if_neg (by decide)]
  · unfold spec_QapOf.f
    rw [Sys.specOk_f a b rows ha hx hn k (by omega), Option.bind_some, h, if_neg (by decide)]
/-- what both answer -/
theorem qap_both {a b : Int} {rows : List RT} (ha : -9223372036854775808 ≤ a) (hx : ∀ y ∈ rows, fitsT y) (hn : rows.length ≤ 1048576) : ∃ us vs ws o, Three us vs ws ∧ Ev (fun k => impl_QapOf.f k a b rows) (us, vs, ws, o) ∧ Ev (fun k => spec_QapOf.f k a b rows) (us, vs, ws, o) := by
  cases h : sysOk a b rows with
  | false =>
    obtain ⟨h1, h2⟩ := qap_wrong ha hx hn h
    exact ⟨[], [], [], false, ⟨⟨by simp, by simp⟩, ⟨by simp, by simp⟩, ⟨by simp, by simp⟩⟩, ⟨5000001, fun k hk => h1 k (by omega)⟩, ⟨5000001, fun k hk => h2 k (by omega)⟩⟩
  | true =>
    obtain ⟨n, e, hf, h1⟩ := impl_QapOf_right h
    obtain ⟨n', e', _, h2⟩ := spec_QapOf_right h
    obtain rfl : n = n' := by omega
    have := hf.n2
    exact ⟨qA rows n, qB rows n, qC rows n, true, ⟨⟨by simp [qA]; omega, col_len _ (fun _ => pthrough_length _) n⟩, ⟨by simp [qB]; omega, col_len _ (fun _ => pthrough_length _) n⟩, ⟨by simp [qC]; omega, col_len _ (fun _ => pthrough_length _) n⟩⟩, h1, h2⟩
end Go.Proofs.Ytcnejiflpioaiaa.QapX
end
section
/- What is proved here: for every system the program's QapOf and the reference's answer the same lists, new each time and with no list in them twice, and the system stays as it was. No conditions. -/
set_option linter.unusedVariables false
set_option linter.unusedSimpArgs false
namespace Go.Proofs.Ytcnejiflpioaiaa.Pure
open Go.RowKit Go.Proofs.Ytcnejiflpioaiaa.Pf Go.Proofs.YtcnejiflpioaiaaW.PrintWords Go.Proofs.Ytcnejiflpioaiaa.Ints Go.Proofs.Ytcnejiflpioaiaa.Poly Go.Proofs.Ytcnejiflpioaiaa.QapX
open Go.Proofs.Ytcnejiflpioaiaa.Sys (szSystem_f toSystem_f eqSystem_same conv_fits)
set_option maxRecDepth 4000

theorem FnExactQapOf : laws_FnExactQapOf.Pure := by
  intro a b xs ha hb hx
  have hwf : -9223372036854775808 ≤ a := (by first | exact (Go.bounds_i64 ha).1 | exact (Go.OpenShut.bounds_i64 ha).1)
  obtain ⟨z, e, g⟩ := szSystem_f a b xs (fun y hy => ⟨(hx.2 y hy).1.1, (hx.2 y hy).2.1.1, (hx.2 y hy).2.2.1⟩) hx.1
  rcases g with g | ⟨g0, g1, g2⟩
  · refine ⟨5000000, ?_⟩
    unfold laws_FnExactQapOf.f
    rw [e _ (by decide), Option.bind_some, if_pos g]
  have hl : (xs.map Go.Proofs.Ytcnejiflpioaiaa.Sys.conv).length ≤ 1048576 := by rw [List.length_map]; exact g1
  have hf := conv_fits g2
  obtain ⟨us, vs, ws, o, h3, ⟨K1, h1⟩, ⟨K2, h2⟩⟩ := qap_both (b := b) hwf hf hl
  obtain ⟨m, y0, y1, y2, hm, hq1, hq2⟩ := markQap_held h3
  obtain ⟨k, hk⟩ : ∃ k, k = K1 + K2 + 6000000 := ⟨_, rfl⟩
  obtain ⟨m', ys, hm', hs⟩ := markSystem_g a b (xs.map Go.Proofs.Ytcnejiflpioaiaa.Sys.conv) hl hf (k + 2) (by omega)
  have t3 := toSystem_f a b xs g2 g1 (k + 3) (by omega)
  have t2 := toSystem_f a b xs g2 g1 (k + 2) (by omega)
  have t1 := toSystem_f a b xs g2 g1 (k + 1) (by omega)
  have s3 := h2 (k + 3) (by omega)
  have i3 := h1 (k + 3) (by omega)
  have i1 := h1 (k + 1) (by omega)
  have q3 := eqQap_same h3 (k + 3) (by omega)
  have q2 := eqQap_same h3 (k + 2) (by omega)
  have q1 := eqQap_same h3 (k + 1) (by omega)
  have es := eqSystem_same a b (xs.map Go.Proofs.Ytcnejiflpioaiaa.Sys.conv) hf hl (k + 2) (by omega)
  have mq := hq1 (k + 1) (by omega)
  have d1 := hq2 (k + 1) (by omega)
  have d0 := hq2 k (by omega)
  dsimp only at s3 i3 i1
  refine ⟨k + 3, ?_⟩
  unfold laws_FnExactQapOf.f
  rw [e _ (by omega), Option.bind_some, if_neg (by omega), t3]
  simp only [Option.bind_some, s3, i3, q3, if_true, bne_self_eq_false]
  simp only [laws_FnExactQapOf.j0, t2, Option.bind_some, es, if_true, hs, q2, bne_self_eq_false]
  rw [if_neg (by decide), if_neg (by omega)]
  simp only [laws_FnExactQapOf.j1, mq, d1, Option.bind_some, t1, i1, q1, if_true, bne_self_eq_false]
  rw [if_neg (by decide), if_neg (by omega)]
  simp only [laws_FnExactQapOf.j2, d0, Option.bind_some, if_true]
  rw [if_neg (by decide), if_neg (by omega)]
end Go.Proofs.Ytcnejiflpioaiaa.Pure
end
section
/- What is proved here: a value of a Go type that reads as data opens into the print's own kinds (Kd), for whole numbers, bools, strings, slices and structs. No conditions. -/
set_option linter.unusedVariables false
set_option linter.unusedSimpArgs false
namespace Go.Proofs.Ytcnejiflpioaiaa.Open
open Go.RowKit Go.Proofs.YtcnejiflpioaiaaW.PrintWords Go.ChangeShapes Go.WideShapes

def Opens (P : Program) (t : TypeId) {α : Type} (d : Kd α) (g : α → Prop) : Prop :=
  ∀ {H : Type} (enc : TypeId × Value → H) (w : World) (base : Nat) (spare : Nat → Bool) (held : Bool) (fuel : Nat) (cs : List Value) (x : DataW H × List MemPlace),
    DataW.trod enc P w base spare held fuel t cs = some x → ∃ a, d.K w a cs ∧ g a

theorem list_of {α : Type} {p : Nat → α → Prop} : ∀ n, (∀ i, i < n → ∃ y, p i y) → ∃ ys : List α, ys.length = n ∧ ∀ i y, ys[i]? = some y → p i y
  | 0, _ => ⟨[], rfl, fun i y h => by simp at h⟩
  | n + 1, h => by
    obtain ⟨ys, hl, hy⟩ := list_of n (fun i hi => h i (by omega))
    obtain ⟨y, hy'⟩ := h n (by omega)
    refine ⟨ys ++ [y], by simp [hl], fun i z hz => ?_⟩
    rcases Nat.lt_or_ge i n with hi | hi
    · rw [List.getElem?_append_left (by omega)] at hz
      exact hy i z hz
    · have h1 := (List.getElem?_eq_some_iff.1 hz).1
      rw [List.length_append, List.length_singleton] at h1
      have h2 : i = n := by omega
      subst h2
      rw [List.getElem?_append_right (by omega), hl, Nat.sub_self] at hz
      simp at hz
      subst hz
      exact hy'

section
variable {P : Program} {t : TypeId}
theorem opens_int {k : IntKind} (h : P.underlying t = some (.int k)) : Opens P t (Kd.int k) (fun n => (Lit.int k n).wf = true) := by
  intro H enc w base spare held fuel cs x hx
  obtain ⟨n, rfl, _, hw⟩ := DataW.trod_int h hx
  exact ⟨n, rfl, hw⟩
theorem opens_bool (h : P.underlying t = some .bool) : Opens P t Kd.bool (fun _ => True) := by
  intro H enc w base spare held fuel cs x hx
  obtain ⟨b, hb⟩ : ∃ b, cs = [.bool b] := by
    cases fuel with
    | zero => simp [DataW.trod] at hx
    | succ n =>
      unfold DataW.trod at hx
      rw [h] at hx
      split at hx <;> simp_all
  exact ⟨b, hb, trivial⟩
theorem opens_string (h : P.underlying t = some .string) : Opens P t Kd.string (fun s => s.size ≤ maxLen) := by
  intro H enc w base spare held fuel cs x hx
  obtain ⟨n, rfl, _, hw⟩ := DataW.trod_string h hx
  exact ⟨n, rfl, hw⟩
theorem opens_slice {e : TypeId} {α : Type} {d : Kd α} {g : α → Prop} (ht : P.underlying t = some (.slice e)) (hc : P.cellsOf e = d.sz) (he : Opens P e d g) :
    Opens P t (Kd.slice e d) (fun xs => xs.length ≤ 9223372036854775807 ∧ ∀ x ∈ xs, g x) := by
  intro H enc w base spare held fuel cs x h
  rcases Go.Deep.open_slice ht h with ⟨rfl, _⟩ | ⟨a, len, cap, m, n, D, Pl, rfl, hb, hl, hm, hmm, _, hx⟩
  · exact ⟨[], ⟨none, 0, rfl, Nat.le_refl _, Kd.C_nil d w⟩, by simp, fun x hx => by cases hx⟩
  · have hlm : len ≤ m := by rw [hmm]; split <;> omega
    obtain ⟨ys, hy1, hy2⟩ := list_of (p := fun i y => ∃ c, w.cells? base (a.add (i * P.cellsOf e)) (P.cellsOf e) = some c ∧ d.K w y c ∧ g y) len (fun i hi => by
      obtain ⟨c, h1, h2⟩ := hx i (by omega)
      obtain ⟨y, h3, h4⟩ := he _ _ _ _ _ _ _ _ h2
      exact ⟨y, c, h1, h3, h4⟩)
    unfold maxLen at hm
    refine ⟨ys, ⟨some a, cap, by rw [hy1], by omega, rfl, by omega, fun _ => ⟨a, rfl, fun j p hp => ?_⟩⟩, by omega, fun y hy => ?_⟩
    · obtain ⟨c, h1, h2, h3⟩ := hy2 j p hp
      obtain ⟨_, hlen, hcell⟩ := World.cells?_some h1
      refine ⟨c, by rw [hlen, hc], h2, fun i u hu => ?_⟩
      have hi := (List.getElem?_eq_some_iff.1 hu).1
      have := hcell i (by omega)
      rw [Go.Deep.add_add, hc] at this
      rw [this, hu]
    · obtain ⟨i, hi⟩ := List.mem_iff_getElem?.1 hy
      obtain ⟨c, h1, h2, h3⟩ := hy2 i y hi
      exact h3
theorem opens_iso {α β : Type} {d : Kd α} {g : α → Prop} (f : β → α) (mk : α → β) (hf : ∀ a, f (mk a) = a) (h : Opens P t d g) : Opens P t (Kd.iso d f) (fun x => g (f x)) := by
  intro H enc w base spare held fuel cs x hx
  obtain ⟨a, h1, h2⟩ := h enc w base spare held fuel cs x hx
  exact ⟨mk a, by show d.K w (f (mk a)) cs; rw [hf]; exact h1, by show g (f (mk a)); rw [hf]; exact h2⟩
theorem struct_field {fs : Array Field} {H : Type} {enc : TypeId × Value → H} {w : World} {base : Nat} {spare : Nat → Bool} {held : Bool} {n : Nat} {cs : List Value} {xs : List (DataW H × List MemPlace)} (hl : xs.length = fs.size)
    (hf : ∀ (i : Nat) (f : Field), fs[i]? = some f → DataW.trod enc P w base spare held n f.type ((cs.drop f.offset).take (P.cellsOf f.type)) = xs[i]?) {i : Nat} {f : Field} (hi : fs[i]? = some f) {α : Type} {d : Kd α} {g : α → Prop} (ho : Opens P f.type d g) :
    ∃ a, d.K w a ((cs.drop f.offset).take (P.cellsOf f.type)) ∧ g a := by
  have h1 := hf i f hi
  have h2 : i < xs.length := by rw [hl]; exact (Array.getElem?_eq_some_iff.1 hi).1
  rw [List.getElem?_eq_getElem h2] at h1
  exact ho _ _ _ _ _ _ _ _ h1
theorem opens_struct1 {f0 : Field} {α : Type} {d0 : Kd α} {g0 : α → Prop} (ht : P.underlying t = some (.struct #[f0])) (h0 : Opens P f0.type d0 g0)
    (s0 : P.cellsOf f0.type = d0.sz) (o0 : f0.offset = 0) (st : P.cellsOf t = d0.sz) : Opens P t d0 g0 := by
  intro H enc w base spare held fuel cs x hx
  obtain ⟨xs, n, _, _, hlen, hl, hf⟩ := DataW.trod_struct ht hx
  obtain ⟨a, ha, hg⟩ := struct_field hl hf (i := 0) (f := f0) rfl h0
  rw [o0, s0, List.drop_zero, List.take_of_length_le (by omega)] at ha
  exact ⟨a, ha, hg⟩
theorem opens_struct2 {f0 f1 : Field} {α β : Type} {d0 : Kd α} {d1 : Kd β} {g0 : α → Prop} {g1 : β → Prop} (ht : P.underlying t = some (.struct #[f0, f1])) (h0 : Opens P f0.type d0 g0) (h1 : Opens P f1.type d1 g1)
    (s0 : P.cellsOf f0.type = d0.sz) (s1 : P.cellsOf f1.type = d1.sz) (o0 : f0.offset = 0) (o1 : f1.offset = d0.sz) (st : P.cellsOf t = d0.sz + d1.sz) : Opens P t (Kd.pair d0 d1) (fun x => g0 x.1 ∧ g1 x.2) := by
  intro H enc w base spare held fuel cs x hx
  obtain ⟨xs, n, _, _, hlen, hl, hf⟩ := DataW.trod_struct ht hx
  obtain ⟨a, ha, ga⟩ := struct_field hl hf (i := 0) (f := f0) rfl h0
  obtain ⟨b, hb, gb⟩ := struct_field hl hf (i := 1) (f := f1) rfl h1
  rw [o0, s0, List.drop_zero] at ha
  rw [o1, s1, List.take_of_length_le (by rw [List.length_drop]; omega)] at hb
  exact ⟨(a, b), ⟨_, _, (List.take_append_drop d0.sz cs).symm, ha, hb⟩, ga, gb⟩
theorem opens_struct3 {f0 f1 f2 : Field} {α β γ : Type} {d0 : Kd α} {d1 : Kd β} {d2 : Kd γ} {g0 : α → Prop} {g1 : β → Prop} {g2 : γ → Prop} (ht : P.underlying t = some (.struct #[f0, f1, f2])) (h0 : Opens P f0.type d0 g0) (h1 : Opens P f1.type d1 g1) (h2 : Opens P f2.type d2 g2)
    (s0 : P.cellsOf f0.type = d0.sz) (s1 : P.cellsOf f1.type = d1.sz) (s2 : P.cellsOf f2.type = d2.sz) (o0 : f0.offset = 0) (o1 : f1.offset = d0.sz) (o2 : f2.offset = d0.sz + d1.sz) (st : P.cellsOf t = d0.sz + d1.sz + d2.sz) :
    Opens P t (Kd.pair d0 (Kd.pair d1 d2)) (fun x => g0 x.1 ∧ g1 x.2.1 ∧ g2 x.2.2) := by
  intro H enc w base spare held fuel cs x hx
  obtain ⟨xs, n, _, _, hlen, hl, hf⟩ := DataW.trod_struct ht hx
  obtain ⟨a, ha, ga⟩ := struct_field hl hf (i := 0) (f := f0) rfl h0
  obtain ⟨b, hb, gb⟩ := struct_field hl hf (i := 1) (f := f1) rfl h1
  obtain ⟨c, hc, gc⟩ := struct_field hl hf (i := 2) (f := f2) rfl h2
  rw [o0, s0, List.drop_zero] at ha
  rw [o1, s1] at hb
  rw [o2, s2, List.take_of_length_le (by rw [List.length_drop]; omega)] at hc
  refine ⟨(a, b, c), ⟨_, _, (List.take_append_drop d0.sz cs).symm, ha, _, _, (List.take_append_drop d1.sz _).symm, hb, ?_⟩, ga, gb, gc⟩
  rw [List.drop_drop]
  exact hc
theorem opens_struct4 {f0 f1 f2 f3 : Field} {α β γ δ : Type} {d0 : Kd α} {d1 : Kd β} {d2 : Kd γ} {d3 : Kd δ} {g0 : α → Prop} {g1 : β → Prop} {g2 : γ → Prop} {g3 : δ → Prop} (ht : P.underlying t = some (.struct #[f0, f1, f2, f3]))
    (h0 : Opens P f0.type d0 g0) (h1 : Opens P f1.type d1 g1) (h2 : Opens P f2.type d2 g2) (h3 : Opens P f3.type d3 g3)
    (s0 : P.cellsOf f0.type = d0.sz) (s1 : P.cellsOf f1.type = d1.sz) (s2 : P.cellsOf f2.type = d2.sz) (s3 : P.cellsOf f3.type = d3.sz) (o0 : f0.offset = 0) (o1 : f1.offset = d0.sz) (o2 : f2.offset = d0.sz + d1.sz) (o3 : f3.offset = d0.sz + d1.sz + d2.sz)
    (st : P.cellsOf t = d0.sz + d1.sz + d2.sz + d3.sz) :
    Opens P t (Kd.pair d0 (Kd.pair d1 (Kd.pair d2 d3))) (fun x => g0 x.1 ∧ g1 x.2.1 ∧ g2 x.2.2.1 ∧ g3 x.2.2.2) := by
  intro H enc w base spare held fuel cs x hx
  obtain ⟨xs, n, _, _, hlen, hl, hf⟩ := DataW.trod_struct ht hx
  obtain ⟨a, ha, ga⟩ := struct_field hl hf (i := 0) (f := f0) rfl h0
  obtain ⟨b, hb, gb⟩ := struct_field hl hf (i := 1) (f := f1) rfl h1
  obtain ⟨c, hc, gc⟩ := struct_field hl hf (i := 2) (f := f2) rfl h2
  obtain ⟨d, hd, gd⟩ := struct_field hl hf (i := 3) (f := f3) rfl h3
  rw [o0, s0, List.drop_zero] at ha
  rw [o1, s1] at hb
  rw [o2, s2] at hc
  rw [o3, s3, List.take_of_length_le (by rw [List.length_drop]; omega)] at hd
  refine ⟨(a, b, c, d), ⟨_, _, (List.take_append_drop d0.sz cs).symm, ha, _, _, (List.take_append_drop d1.sz _).symm, hb, _, _, (List.take_append_drop d2.sz _).symm, ?_, ?_⟩, ga, gb, gc, gd⟩
  · rw [List.drop_drop]
    exact hc
  · rw [List.drop_drop, List.drop_drop, ← Nat.add_assoc]
    exact hd
end
end Go.Proofs.Ytcnejiflpioaiaa.Open
end
