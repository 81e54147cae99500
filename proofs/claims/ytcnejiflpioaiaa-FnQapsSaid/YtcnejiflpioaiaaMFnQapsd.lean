/- What is proved here: part 4 of 4 of the proof of the given statement FnQaps: the contracts of the Go functions that it reaches, the plain facts on lists and numbers, and (in the last part) the statement itself. No conditions beyond the given ones. -/
import Derived.Test.YtcnejiflpioaiaaMFnQapswSlim
import Derived.Test.YtcnejiflpioaiaaMFnQapsa
import Derived.Test.YtcnejiflpioaiaaMFnQapsb
import Derived.Test.YtcnejiflpioaiaaMFnQapsc
import Derived.Test.YtcnejiflpioaiaaRows
import Derived.WalkKit
import Derived.ProofKit
import Derived.OpenShut
import Derived.ShutString
import Derived.ChangeOld
import Derived.Below
import Derived.SizedLaws
import Derived.Test.YtcnejiflpioaiaaMFnQapswSized

section
namespace Go.Proofs.Ytcnejiflpioaiaa.Pf
open Go.RowKit Go.Proofs.YtcnejiflpioaiaaW.PrintWords Go.Proofs.YtcnejiflpioaiaaW.PrintLast Go.Proofs.YtcnejiflpioaiaaW.PrintMore
attribute [local go_sem] max2_int min2_int max_two min_two max_three min_three max_four min_four   -- for this text's walks alone
set_option linter.unusedVariables false
set_option linter.unusedSimpArgs false
def laws_FnQaps.l0 : Nat → List Int → List Int → List Int → Bool → List Int → Bool → Bool → Int → Int → Int → List (S40) → Option (Bool)
 | 0, _, _, _, _, _, _, _, _, _, _, _ => none
 | k + 1, x4, x5, x6, x7, x8, x11, x12, x13, x554000, x554001, x554002 => if x13 < (x554002.length : Int) then (if 0 ≤ x13 then (if x12 = true then ((spec_ScDot.f k ((rd_T40 x554002 x13).f0) x8).bind fun t580 => ((spec_ScDot.f k ((rd_T40 x554002 x13).f1) x8).bind fun t581 => ((spec_ScMul.f t580 t581).bind fun t582 => ((spec_ScDot.f k ((rd_T40 x554002 x13).f2) x8).bind fun t583 => (laws_FnQaps.l0 k x4 x5 x6 x7 x8 x11 (t582 == t583) (wrap64 (x13 + 1)) x554000 x554001 x554002))))) else (laws_FnQaps.l0 k x4 x5 x6 x7 x8 x11 false (wrap64 (x13 + 1)) x554000 x554001 x554002)) else (none)) else (if x7 = true then (if (x6.length : Int) < (x554002.length : Int) then (if 2 < (x5.length : Int) then ((impl_QapHolds.f k x554000 x554001 x554002 x4 (rd x5 2)).bind fun t577 => (if t577 = true then (some (x11 == x12)) else (some false))) else (none)) else (some false)) else (some false))
def laws_FnQaps.f (k : Nat) (l0 : List Int) : Option (Bool) := (laws_big.f l0).bind fun t544 => (if t544 = true then (some true) else ((spec_DrawSystem.f k l0).bind fun bt545 => ((spec_DrawPlaces.f k l0).bind fun t554 => ((impl_QuotientOf.f k bt545.1 bt545.2.1 bt545.2.2.1 bt545.2.2.2).bind fun bt557 => ((some (([] : List Int) : List Int)).bind fun y561 => (if y561.length + bt545.2.2.2.length < 17592186044416 then ((some (y561 ++ bt545.2.2.2 : List Int)).bind fun y564 => (if 0 < (t554.length : Int) then (if (bt545.2.2.2.length : Int) = 0 then (none) else (if 0 ≤ (Int.tmod (rd t554 0) (bt545.2.2.2.length : Int)) then (if (Int.tmod (rd t554 0) (bt545.2.2.2.length : Int)) < (y564.length : Int) then (if 1 < (t554.length : Int) then ((spec_ScAdd.f (rd y564 (Int.tmod (rd t554 0) (bt545.2.2.2.length : Int))) (wrap64 (1 + (Int.tmod (rd t554 1) 1008)))).bind fun t570 => ((some (y564.set ((Int.tmod (rd t554 0) (bt545.2.2.2.length : Int)) : Int).toNat t570 : List Int)).bind fun y571 => ((impl_QuotientOf.f k bt545.1 bt545.2.1 bt545.2.2.1 y571).bind fun bt572 => (laws_FnQaps.l0 k bt545.2.2.2 t554 bt557.1 bt557.2 y571 bt572.2 true 0 bt545.1 bt545.2.1 bt545.2.2.1)))) else (none)) else (none)) else (none))) else (none))) else (none)))))))
def laws_FnQaps.T8 : Bool × List (List Nat × List Nat) := (true, [([], []), ([], []), ([], []), ([], []), ([2, 3], [2, 3]), ([4], [4]), ([], []), ([6], [6]), ([7], [7]), ([8], [8]), ([9], [9]), ([5, 10], [5, 10]), ([0, 1, 0, 1, 2, 3, 4, 5, 6, 7, 8, 9, 10, 11], [0, 1]), ([12, 11, 11, 0, 1, 2, 3, 4, 5, 6, 7, 8, 9, 10, 11], [11, 12])])
def laws_FnQaps.B8 : List Nat := [0, 0, 0, 0, 12, 28, 0, 64, 192, 448, 960, 2044, 4095, 8191]
theorem laws_FnQaps.tab8 : rtab .any (opsOf Try.f5 8) = laws_FnQaps.T8 := by kernel_rfl
theorem laws_FnQaps.bits8 : waitsOk laws_FnQaps.T8.2 laws_FnQaps.B8 = true := by kernel_rfl
def laws_FnQaps.T15 : Bool × List (List Nat × List Nat) := (true, [([], []), ([0], [0]), ([1], [1]), ([2, 1], [1, 2]), ([1], [1]), ([3, 4, 1, 1], [1, 3, 4]), ([1], [1]), ([6, 1], [1, 6]), ([1], [1]), ([7, 8, 5, 1], [1, 7, 8]), ([5, 9, 9, 1], [1, 5, 9]), ([1], [1]), ([11, 1], [1, 11]), ([1], [1]), ([12, 13, 10, 1], [1, 12, 13]), ([10, 14, 1], [1, 10, 14]), ([1, 15], [1, 15]), ([16, 14, 0, 1, 2, 3, 4, 5, 6, 7, 8, 9, 10, 11, 12, 13, 14, 15, 16], [0, 16])])
def laws_FnQaps.B15 : List Nat := [0, 1, 3, 7, 3, 31, 3, 67, 3, 511, 1023, 3, 2051, 3, 16383, 32767, 65535, 131071]
theorem laws_FnQaps.tab15 : rtab .any (opsOf Try.f5 15) = laws_FnQaps.T15 := by kernel_rfl
theorem laws_FnQaps.bits15 : waitsOk laws_FnQaps.T15.2 laws_FnQaps.B15 = true := by kernel_rfl
def laws_FnQaps.T16 : Bool × List (List Nat × List Nat) := (true, [([], []), ([0], [0]), ([1], [1]), ([2, 1], [1, 2]), ([1], [1]), ([4, 1], [1, 4]), ([5, 1], [1, 5]), ([3, 6, 1], [1, 3, 6]), ([1, 7], [1, 7]), ([8, 1], [8]), ([9], [9]), ([9], [9]), ([9], [9]), ([12, 9], [9, 12]), ([13, 9], [9, 13]), ([10, 11, 14, 9, 9], [9, 10, 11, 14]), ([9, 15], [9, 15]), ([16, 15], [16]), ([17], [17]), ([17], [17]), ([18, 19, 17], [17, 18, 19]), ([17, 20], [17, 20]), ([21, 17, 0, 1, 2, 3, 4, 5, 6, 7, 8, 9, 10, 11, 12, 13, 14, 15, 16, 17, 18, 19, 20, 21], [21])])
def laws_FnQaps.B16 : List Nat := [0, 1, 3, 7, 3, 19, 51, 127, 255, 511, 1023, 1023, 1023, 5119, 13311, 32767, 65535, 131071, 262143, 262143, 1048575, 2097151, 4194303]
theorem laws_FnQaps.tab16 : rtab .any (opsOf Try.f5 16) = laws_FnQaps.T16 := by kernel_rfl
theorem laws_FnQaps.bits16 : waitsOk laws_FnQaps.T16.2 laws_FnQaps.B16 = true := by kernel_rfl
set_option maxHeartbeats 8000000 in
set_option maxRecDepth 100000 in
theorem laws_FnQaps.calls (k : Nat) (A0 : Option Addr) (c0 : Nat) (l0 : List Int) (r : Bool) (w : World) (hr0 : Kd.C (Kd.int .u8) w A0 l0.length l0) (hc0 : l0.length ≤ c0) (htrue : Aside0 (r = true)) (h : laws_FnQaps.f k l0 = some r) :
  Calls Try.prog 5 #[.slice A0 l0.length c0] w fun e w' => e = .returned (.bool r) ∧ Below w.heap.size w w' := by
 have hu32 := Try.underlying32
 have hu40 := Try.underlying40
 have HR0 := Aside0.mk hr0
 have HC0 := Aside0.mk hc0
 clear hr0 hc0
 have HB := Aside0.mk (Below.refl w.heap.size w)
 have H : ((laws_big.f l0).bind fun t544 => (if t544 = true then (some true) else ((spec_DrawSystem.f k l0).bind fun bt545 => ((spec_DrawPlaces.f k l0).bind fun t554 => ((impl_QuotientOf.f k bt545.1 bt545.2.1 bt545.2.2.1 bt545.2.2.2).bind fun bt557 => ((some (([] : List Int) : List Int)).bind fun y561 => (if y561.length + bt545.2.2.2.length < 17592186044416 then ((some (y561 ++ bt545.2.2.2 : List Int)).bind fun y564 => (if 0 < (t554.length : Int) then (if (bt545.2.2.2.length : Int) = 0 then (none) else (if 0 ≤ (Int.tmod (rd t554 0) (bt545.2.2.2.length : Int)) then (if (Int.tmod (rd t554 0) (bt545.2.2.2.length : Int)) < (y564.length : Int) then (if 1 < (t554.length : Int) then ((spec_ScAdd.f (rd y564 (Int.tmod (rd t554 0) (bt545.2.2.2.length : Int))) (wrap64 (1 + (Int.tmod (rd t554 1) 1008)))).bind fun t570 => ((some (y564.set ((Int.tmod (rd t554 0) (bt545.2.2.2.length : Int)) : Int).toNat t570 : List Int)).bind fun y571 => ((impl_QuotientOf.f k bt545.1 bt545.2.1 bt545.2.2.1 y571).bind fun bt572 => (laws_FnQaps.l0 k bt545.2.2.2 t554 bt557.1 bt557.2 y571 bt572.2 true 0 bt545.1 bt545.2.1 bt545.2.2.1)))) else (none)) else (none)) else (none))) else (none))) else (none)))))))) = some r := h
 clear h
 replace H := Option.bind_eq_some_iff.mp H
 obtain ⟨t544, A20, H⟩ := H
 have A2 := Aside0.mk A20
 clear A20
 by_cases c3 : t544 = true
 ·subst c3
  rw [if_pos rfl] at H
  obtain rfl := Option.some.inj H
  go_enter Try.func5, Try.ntmps5
  go_wp2_with (first | (refine gC (some 16) Try.func23 #[.slice A0 l0.length c0] ?_; (with_reducible refine (laws_big.calls _ _ l0 true _ ?side1 ?side2 A2.out).mono ?_); (case side1 => exact cP HR0.out); (case side2 => exact HC0.out); rintro e w' ⟨rfl, ⟨nd, rfl⟩⟩; refine ⟨_, rfl, ?_⟩))
  go_ret
  exact ⟨rR, bZ HB⟩
 ·replace c3 := Bool.eq_false_iff.mpr c3
  subst c3
  rw [if_neg (show ¬ (false = true) by decide)] at H
  replace H := Option.bind_eq_some_iff.mp H
  obtain ⟨⟨t545, t546, t547, t550⟩, A40, H⟩ := H
  have A4 := Aside0.mk A40
  clear A40
  replace H := Option.bind_eq_some_iff.mp H
  obtain ⟨t554, A50, H⟩ := H
  have A5 := Aside0.mk A50
  clear A50
  replace H := Option.bind_eq_some_iff.mp H
  obtain ⟨⟨t557, t560⟩, A60, H⟩ := H
  have A6 := Aside0.mk A60
  clear A60
  obtain ⟨y561, hy561⟩ : ∃ y_ : List Int, y_ = (([] : List Int)) := ⟨_, rfl⟩
  replace H : (if y561.length + t550.length < 17592186044416 then ((some (y561 ++ t550 : List Int)).bind fun y564 => (if 0 < (t554.length : Int) then (if (t550.length : Int) = 0 then (none) else (if 0 ≤ (Int.tmod (rd t554 0) (t550.length : Int)) then (if (Int.tmod (rd t554 0) (t550.length : Int)) < (y564.length : Int) then (if 1 < (t554.length : Int) then ((spec_ScAdd.f (rd y564 (Int.tmod (rd t554 0) (t550.length : Int))) (wrap64 (1 + (Int.tmod (rd t554 1) 1008)))).bind fun t570 => ((some (y564.set ((Int.tmod (rd t554 0) (t550.length : Int)) : Int).toNat t570 : List Int)).bind fun y571 => ((impl_QuotientOf.f k t545 t546 t547 y571).bind fun bt572 => (laws_FnQaps.l0 k t550 t554 t557 t560 y571 bt572.2 true 0 t545 t546 t547)))) else (none)) else (none)) else (none))) else (none))) else (none)) = some r := by first | (rw [hy561]; with_reducible exact H) | (have H2_ := (Option.bind_some _ _).symm.trans H; rw [hy561]; with_reducible exact H2_) | (have H2_ := (Option.bind_some _ _).symm.trans H; with_reducible exact H2_) | with_reducible exact H | (rw [hy561]; exact H) | exact H
  have Ny561 := Aside0.mk hy561
  clear hy561
  by_cases c7 : y561.length + t550.length < 17592186044416
  ·rw [if_pos c7] at H
   have LMc7 := Aside0.mk c7
   clear c7
   obtain ⟨y564, hy564⟩ : ∃ y_ : List Int, y_ = (y561 ++ t550) := ⟨_, rfl⟩
   replace H : (if 0 < (t554.length : Int) then (if (t550.length : Int) = 0 then (none) else (if 0 ≤ (Int.tmod (rd t554 0) (t550.length : Int)) then (if (Int.tmod (rd t554 0) (t550.length : Int)) < (y564.length : Int) then (if 1 < (t554.length : Int) then ((spec_ScAdd.f (rd y564 (Int.tmod (rd t554 0) (t550.length : Int))) (wrap64 (1 + (Int.tmod (rd t554 1) 1008)))).bind fun t570 => ((some (y564.set ((Int.tmod (rd t554 0) (t550.length : Int)) : Int).toNat t570 : List Int)).bind fun y571 => ((impl_QuotientOf.f k t545 t546 t547 y571).bind fun bt572 => (laws_FnQaps.l0 k t550 t554 t557 t560 y571 bt572.2 true 0 t545 t546 t547)))) else (none)) else (none)) else (none))) else (none)) = some r := by first | (rw [hy564]; with_reducible exact H) | (have H2_ := (Option.bind_some _ _).symm.trans H; rw [hy564]; with_reducible exact H2_) | (have H2_ := (Option.bind_some _ _).symm.trans H; with_reducible exact H2_) | with_reducible exact H | (rw [hy564]; exact H) | exact H
   have Ny564 := Aside0.mk hy564
   clear hy564
   by_cases c8 : 0 < (t554.length : Int)
   ·rw [if_pos c8] at H
    have c8b0 := decide_eq_true c8
    have c8b1 : decide (0 < t554.length) = true := decide_eq_true (by omega)
    clear c8
    by_cases c9 : (t550.length : Int) = 0
    ·rw [if_pos c9] at H
     exact absurd H (by simp)
    ·rw [if_neg c9] at H
     have c9b0 : ((t550.length : Int) == 0) = false := beq_eq_false_iff_ne.mpr c9
     have c9b1 : ((t550.length : Int) != 0) = true := bne_iff_ne.mpr c9
     have c9b2 : ¬ (t550 = []) := fun h_ => c9 (by rw [h_]; rfl)
     obtain ⟨ji10, hji10⟩ : ∃ j_ : Int, (Int.tmod (rd t554 0) (t550.length : Int)) = j_ := ⟨_, rfl⟩
     replace H : (if 0 ≤ (ji10) then (if (ji10) < (y564.length : Int) then (if 1 < (t554.length : Int) then ((spec_ScAdd.f (rd y564 (ji10)) (wrap64 (1 + (Int.tmod (rd t554 1) 1008)))).bind fun t570 => ((some (y564.set ((ji10) : Int).toNat t570 : List Int)).bind fun y571 => ((impl_QuotientOf.f k t545 t546 t547 y571).bind fun bt572 => (laws_FnQaps.l0 k t550 t554 t557 t560 y571 bt572.2 true 0 t545 t546 t547)))) else (none)) else (none)) else (none)) = some r := by first | (rw [hji10] at H; exact H) | (simp only [hji10] at H ⊢; exact H)
     (try rw [hji10] at A2)
     (try rw [hji10] at A4)
     (try rw [hji10] at A5)
     (try rw [hji10] at A6)
     by_cases c11 : 0 ≤ (ji10)
     ·rw [if_pos c11] at H
      have c11b0 := decide_eq_true c11
      clear c11
      by_cases c12 : (ji10) < (y564.length : Int)
      ·rw [if_pos c12] at H
       have c12b0 := decide_eq_true c12
       clear c12
       by_cases c13 : 1 < (t554.length : Int)
       ·rw [if_pos c13] at H
        have c13b0 := decide_eq_true c13
        have c13b1 : decide (1 < t554.length) = true := decide_eq_true (by omega)
        clear c13
        replace H := Option.bind_eq_some_iff.mp H
        obtain ⟨t570, A140, H⟩ := H
        have A14 := Aside0.mk A140
        clear A140
        obtain ⟨y571, hy571⟩ : ∃ y_ : List Int, y_ = (y564.set ((ji10) : Int).toNat t570) := ⟨_, rfl⟩
        replace H : ((impl_QuotientOf.f k t545 t546 t547 y571).bind fun bt572 => (laws_FnQaps.l0 k t550 t554 t557 t560 y571 bt572.2 true 0 t545 t546 t547)) = some r := by first | (rw [hy571]; with_reducible exact H) | (have H2_ := (Option.bind_some _ _).symm.trans H; rw [hy571]; with_reducible exact H2_) | (have H2_ := (Option.bind_some _ _).symm.trans H; with_reducible exact H2_) | with_reducible exact H | (rw [hy571]; exact H) | exact H
        have Ny571 := Aside0.mk hy571
        clear hy571
        replace H := Option.bind_eq_some_iff.mp H
        obtain ⟨⟨t572, t575⟩, A160, H⟩ := H
        have A16 := Aside0.mk A160
        clear A160
        have H' := Aside0.mk H
        clear H
        go_enter Try.func5, Try.ntmps5
        try go_wp2_with (first | (refine gC (some 16) Try.func23 #[.slice A0 l0.length c0] ?_; (with_reducible refine (laws_big.calls _ _ l0 false _ ?side1 ?side2 A2.out).mono ?_); (case side1 => exact cP HR0.out); (case side2 => exact HC0.out); rintro e w' ⟨rfl, ⟨nd, rfl⟩⟩; refine ⟨_, rfl, ?_⟩) | (refine gC (some 19) Try.func24 #[.slice A0 l0.length c0] ?_; (with_reducible refine (spec_DrawSystem.calls k _ _ l0 t545 t546 t547 t550 _ ?side1 ?side2 A4.out).mono ?_); (case side1 => exact cP HR0.out); (case side2 => exact HC0.out); rintro e w17 ⟨v548, v551, rfl, ho0, ho1, hb⟩; refine ⟨_, rfl, ?_⟩; have HO549 := Aside0.mk (Kd.N_lower (Kd.N_mono (ok' := fun k_ => some k_ ≠ (v551 : Value).ownBlock) ho0 (fun k_ hk_ => hk_.2)) (below_size (bZ HB))); have HO552 := Aside0.mk (Kd.R_lower (Kd.R_mono (ok' := fun k_ => True) ho1 (fun _ hk_ => trivial)) (below_size (bZ HB))); replace HB := bS HB hb; (try clear hb); (try clear ho0); (try clear ho1)) | ((with_reducible refine gate_dst (N := 3) rfl ?_); (try (refine gate_guard (by rfl) ?_; dsimp only)); refine box_event ?hg (N := 3) ?hd (cs := #[.int .i64 0, .int .i64 0, .slice none 0 0]) (t := 32) ?hr ?_; (case hd => rfl); (case hg => rfl); (case hr => first | (go_simp; done) | (go_simp; rfl)); intro gb553 hg w18 hbox hb; replace HO549 := Aside0.mk (Kd.N_below (Kd.N_elderB (by (with_reducible repeat (first | apply Kd.N_alloc | apply Kd.N_drewN | apply Kd.N_drew)); exact HO549.out) gb553 (Nat.le_of_eq hg.symm)) hb); replace HO552 := Aside0.mk (Kd.R_below (rP HO552) hb); have BK553 := Aside0.mk (hbox); have GW553 := bG HB hg; have GE553 := bG HB hg; replace HB := bS HB hb; clear hb hbox hg; obtain ⟨hcz19_0, hcz19_1, hcz19_2, hfz19_0, hfz19_1, hfz19_2⟩ := bK3 (w := w18) BK553; obtain ⟨Ao20, co20, eo20⟩ := Kd.N_slice HO549.out; subst eo20) | (refine gC (some 23) Try.func25 #[.slice A0 l0.length c0] ?_; (with_reducible refine (spec_DrawPlaces.calls k _ _ l0 t554 _ ?side1 ?side2 A5.out).mono ?_); (case side1 => exact Kd.C_below HR0.out (bZ HB)); (case side2 => exact HC0.out); rintro e w21 ⟨v555, rfl, ho0, hb⟩; refine ⟨_, rfl, ?_⟩; replace HO549 := Aside0.mk (Kd.N_elder' (by (with_reducible repeat (first | apply Kd.N_alloc | apply Kd.N_drewN | apply Kd.N_drew)); exact (Kd.N_mono (Kd.N_far (p := ⟨gb553, 2, none⟩) (Kd.N_far (p := ⟨gb553, 1, none⟩) (Kd.N_far (p := ⟨gb553, 0, none⟩) (Kd.N_mono HO549.out (fun k_ hk => (⟨hk, hk.2⟩ : _ ∧ k_ ≠ gb553))) (fun _ hk => hk.2) (.int .i64 t545)) (fun _ hk => hk.2) (.int .i64 t546)) (fun _ hk => hk.2) (.slice Ao20 t547.length co20)) (fun _ h_ => h_.1))) (Kd.R_base ho0) hb); have HO556 := Aside0.mk (Kd.R_lower (Kd.R_new' ho0 (Kd.R_lt (by (with_reducible repeat (first | apply Kd.R_alloc | apply Kd.R_drewN | apply Kd.R_drew)); exact (Kd.R_mono (Kd.R_far (p := ⟨gb553, 2, none⟩) (Kd.R_far (p := ⟨gb553, 1, none⟩) (Kd.R_far (p := ⟨gb553, 0, none⟩) (Kd.R_types HO552.out BK553.out (by decide)) (fun _ hk => hk.2) (.int .i64 t545)) (fun _ hk => hk.2) (.int .i64 t546)) (fun _ hk => hk.2) (.slice Ao20 t547.length co20)) (fun _ h_ => h_.1))))) (below_size (bZ HB))); replace HO552 := Aside0.mk (Kd.R_elder' (by (with_reducible repeat (first | apply Kd.R_alloc | apply Kd.R_drewN | apply Kd.R_drew)); exact (Kd.R_mono (Kd.R_far (p := ⟨gb553, 2, none⟩) (Kd.R_far (p := ⟨gb553, 1, none⟩) (Kd.R_far (p := ⟨gb553, 0, none⟩) (Kd.R_types HO552.out BK553.out (by decide)) (fun _ hk => hk.2) (.int .i64 t545)) (fun _ hk => hk.2) (.int .i64 t546)) (fun _ hk => hk.2) (.slice Ao20 t547.length co20)) (fun _ h_ => h_.1))) (Kd.R_base ho0) hb); replace BK553 := bV 32 #[.int .i64 t545, .int .i64 t546, .slice Ao20 t547.length co20] BK553 hb; replace HB := bS HB hb; (try clear hb); (try clear ho0); obtain ⟨hcz22_0, hcz22_1, hcz22_2, hfz22_0, hfz22_1, hfz22_2⟩ := bK3 (w := w21) BK553; obtain ⟨Ao23, co23, eo23⟩ := Kd.R_slice HO552.out; subst eo23) | (refine gC (some 27) Try.func26 #[.agg #[.int .i64 t545, .int .i64 t546, .slice Ao20 t547.length co20], .slice Ao23 t550.length co23] ?_; (with_reducible refine (impl_QuotientOf.calls k t545 t546 _ _ t547 _ _ t550 t557 t560 _ ?side1 ?side2 ?side3 ?side4 A6.out).mono ?_); (case side1 => exact cP ((Kd.N_reads' HO549.out).2.2)); (case side2 => exact (Kd.N_reads' HO549.out).2.1); (case side3 => exact cP ((Kd.R_reads' HO552.out).2.2)); (case side4 => exact (Kd.R_reads' HO552.out).2.1); rintro e w24 ⟨v558, rfl, ho0, hb⟩; refine ⟨_, rfl, ?_⟩; replace HO549 := Aside0.mk (Kd.N_elder' (by (with_reducible repeat (first | apply Kd.N_alloc | apply Kd.N_drewN | apply Kd.N_drew)); exact HO549.out) (Kd.R_base ho0) hb); have HO559 := Aside0.mk (Kd.R_lower (Kd.R_new' (Kd.R_new' ho0 (Kd.R_lt (rP HO552))) (Kd.R_lt (rP HO556))) (below_size (bZ HB))); replace HO552 := Aside0.mk (Kd.R_elder' (rP HO552) (Kd.R_base ho0) hb); replace HO556 := Aside0.mk (Kd.R_elder' (rP HO556) (Kd.R_base ho0) hb); replace BK553 := bB BK553 hb; replace HB := bS HB hb; (try clear hb); (try clear ho0)) | ((with_reducible refine gate_dst (N := 30) rfl ?_); (try (refine gate_guard (by rfl) ?_; dsimp only)); refine Kd.R_lit (Kd.int .i64) _ 3 ?hg (N := 30) ?hd (xs := ([] : List Int)) (inner := []) (ok := fun _ => True) (okp := fun _ => True) ?hr ?hp (fun _ hk => hk) trivial (Below.refl _ _) (Nat.le_refl _) (by simp) ?_; (case hd => rfl); (case hg => rfl); (case hr => first | (go_simp; done) | (go_simp; rfl)); (case hp => exact (Reps.none _ _)); intro v562 w25 ho26 hb hg_ hnew_; clear hg_ hnew_; (first | rw [← Ny561.out] at ho26 | (simp only [Int.reduceToNat] at ho26; rw [← Ny561.out] at ho26)); replace HO549 := Aside0.mk (Kd.N_elder' (by (with_reducible repeat (first | apply Kd.N_alloc | apply Kd.N_drewN | apply Kd.N_drew)); exact HO549.out) (Kd.R_base ho26) hb); have HO563 := Aside0.mk (Kd.R_lower (Kd.R_new' (Kd.R_new' (Kd.R_new' ho26 (Kd.R_lt (rP HO552))) (Kd.R_lt (rP HO556))) (Kd.R_lt (rP HO559))) (below_size (bZ HB))); replace HO552 := Aside0.mk (Kd.R_elder' (rP HO552) (Kd.R_base ho26) hb); replace HO556 := Aside0.mk (Kd.R_elder' (rP HO556) (Kd.R_base ho26) hb); replace HO559 := Aside0.mk (Kd.R_elder' (rP HO559) (Kd.R_base ho26) hb); replace BK553 := bB BK553 hb; replace HB := bS HB hb; clear hb ho26) | ((with_reducible refine gate_builtin (b := .append) (xs := #[.tmp 30, .tmp 31]) rfl ?_); (try (refine gate_guard (by rfl) ?_; dsimp only)); at_builtin; refine Kd.R_append_rows (Kd.int .i64) (w0 := w) w.heap.size rfl (.tmp 30) (.tmp 31) 22 3 (.int .i64 0) 8 rfl Try.underlying22 info3 rfl (by decide) (by omega) v562 y561 t550 _ _ _ (fun k_ => some k_ ≠ (.slice Ao23 t550.length co23 : Value).ownBlock ∧ some k_ ≠ (v555 : Value).ownBlock ∧ some k_ ≠ (v558 : Value).ownBlock) (fun _ => False) rfl rfl ?aO ?aR (fun _ _ h => h) (fun _ h => h.elim) ?aF ?aB ?aS ?aL ?_; (case aR => exact cP ((Kd.R_reads' HO552.out).2.2)); (case aB => exact (bZ HB)); (case aF => exact (fun k_ hk => ⟨Kd.fresh' (Kd.R_lt (rP HO552)) k_ hk, Kd.fresh' (Kd.R_lt (rP HO556)) k_ hk, Kd.fresh' (Kd.R_lt (rP HO559)) k_ hk⟩)); (case aO => exact (by (with_reducible repeat (first | apply Kd.R_alloc | apply Kd.R_drewN | apply Kd.R_drew)); exact Kd.R_mono HO563.out (fun _ hk => ⟨hk.1.1.2, ⟨hk.1.2, hk.2⟩⟩))); (case aS => exact (below_size (bZ HB))); (case aL => have := LMc7.out; omega); intro v565 w27 ho hb hg hat; rw [← Ny564.out] at ho; replace HO549 := Aside0.mk (Kd.N_afterv (ok := (fun k_ => some k_ ≠ (.slice Ao23 t550.length co23 : Value).ownBlock ∧ some k_ ≠ (v555 : Value).ownBlock ∧ some k_ ≠ (v558 : Value).ownBlock ∧ k_ ≠ gb553)) (by (with_reducible repeat (first | apply Kd.N_alloc | apply Kd.N_drewN | apply Kd.N_drew)); exact Kd.N_mono HO549.out (fun _ hk => ⟨⟨hk.1.1.1.1, ⟨hk.1.1.2, ⟨hk.1.2, hk.1.1.1.2⟩⟩⟩, hk.2⟩)) hg hat); replace HO552 := Aside0.mk (Kd.R_after (ok := (fun k_ => some k_ ≠ (v555 : Value).ownBlock ∧ some k_ ≠ (v558 : Value).ownBlock)) (by (with_reducible repeat (first | apply Kd.R_alloc | apply Kd.R_drewN | apply Kd.R_drew)); exact Kd.R_mono HO552.out (fun _ hk => ⟨⟨hk.1.1.2, hk.1.2⟩, hk.2⟩)) hg hat); replace BK553 := Aside0.mk (blk_grown (bP BK553) hg (Kd.R_ne HO563.out BK553.out (by decide))); replace HO556 := Aside0.mk (Kd.R_after (ok := (fun k_ => some k_ ≠ (.slice Ao23 t550.length co23 : Value).ownBlock ∧ some k_ ≠ (v558 : Value).ownBlock)) (by (with_reducible repeat (first | apply Kd.R_alloc | apply Kd.R_drewN | apply Kd.R_drew)); exact Kd.R_mono HO556.out (fun _ hk => ⟨⟨hk.1.1.2, hk.1.2⟩, hk.2⟩)) hg hat); replace HO559 := Aside0.mk (Kd.R_after (ok := (fun k_ => some k_ ≠ (.slice Ao23 t550.length co23 : Value).ownBlock ∧ some k_ ≠ (v555 : Value).ownBlock)) (by (with_reducible repeat (first | apply Kd.R_alloc | apply Kd.R_drewN | apply Kd.R_drew)); exact Kd.R_mono HO559.out (fun _ hk => ⟨⟨hk.1.1.2, hk.1.2⟩, hk.2⟩)) hg hat); replace HB := Aside0.mk (hb); have HO566 := Aside0.mk (ho); clear HO563; clear ho hb hg hat; obtain ⟨Ao28, co28, eo28⟩ := Kd.R_slice HO556.out; subst eo28; have p567 : 0 ≤ (0 : Int) := (by omega); have q567 : 0 < (t554.length : Int) := of_decide_eq_true (by first | (with_reducible assumption) | assumption); obtain ⟨ad567, e567, hx567_0⟩ := Kd.at_int (Kd.R_reads' HO556.out).2.2 0 p567 q567; cases e567; have qi567 : (0 < t554.length) = True := eq_true (by omega); (try rw [show ((0 : Int)).toNat = 0 from rfl] at hx567_0); (try rw [Addr.add_zero'] at hx567_0); replace p567 := eq_true p567; replace q567 := eq_true q567))
        replace HO549 := Aside0.mk (Kd.N_drew HO549.out)
        replace HO552 := Aside0.mk (Kd.R_drew HO552.out)
        replace HO556 := Aside0.mk (Kd.R_drew HO556.out)
        replace HO559 := Aside0.mk (Kd.R_drew HO559.out)
        replace HO566 := Aside0.mk (Kd.R_drew HO566.out)
        replace BK553 := Aside0.mk (blk_drew BK553.out)
        replace HB := Aside0.mk (below_drew1 HB.out)
        obtain ⟨Ao30, co30, eo30⟩ := Kd.R_slice HO566.out
        (first | subst eo30 | (injection eo30 with f1_ f2_ f3_; have f4_ := f1_.symm; have f5_ := f3_.symm; clear f1_ f2_ f3_; subst f4_; subst f5_))
        have p568 : 0 ≤ ((ji10) : Int) := of_decide_eq_true (by first | (with_reducible assumption) | assumption)
        have q568 : (ji10) < (y564.length : Int) := of_decide_eq_true (by first | (with_reducible assumption) | assumption)
        obtain ⟨ad568, e568, hx568_0⟩ := Kd.at_int (Kd.R_reads' HO566.out).2.2 (ji10) p568 q568
        cases e568
        replace p568 := eq_true p568
        replace q568 := eq_true q568
        have p569 : 0 ≤ (1 : Int) := (by omega)
        have q569 : 1 < (t554.length : Int) := of_decide_eq_true (by first | (with_reducible assumption) | assumption)
        obtain ⟨ad569, e569, hx569_0⟩ := Kd.at_int (Kd.R_reads' HO556.out).2.2 1 p569 q569
        obtain rfl : ad567 = ad569 := (by injection e569)
        (try simp only [show (1 : Int).toNat = 1 from rfl, Nat.reduceMul, Nat.reduceEqDiff, Go.Addr.add, ↓reduceIte] at hx569_0)
        have qi569 : (1 < t554.length) = True := eq_true (by omega)
        (try rw [show ((1 : Int)).toNat = 1 from rfl] at hx569_0)
        replace p569 := eq_true p569
        replace q569 := eq_true q569
        refine start_ (n := 14) (S := fun w' => w'.cell? (ad568.add ((ji10)).toNat) = some (.int .i64 (rd y564 (ji10))) ∧ w'.cell? ⟨ad567.block, ad567.off + 1, none⟩ = some (.int .i64 (rd t554 1))) (ds := [13]) #[false, false, false, false, false, false, false, false, false, false, false, false, false, false] (by kernel_rfl) rfl rfl ⟨hx568_0, hx569_0⟩ (fun hHeld => ?_); refine with_tabW laws_FnQaps.tab8 laws_FnQaps.bits8 (fun HT_ HW_ => ?_)
        generalize w27.drew = w29 at HO549 HO552 HO556 HO559 HO566 BK553 HB hx568_0 hx569_0 hHeld ⊢
        refine pI 0 (some 39) HT_.out ?_
        refine pI 1 (some 40) HT_.out ?_
        refine pI 2 (some 41) HT_.out ?_
        refine pI 3 (some 42) HT_.out ?_
        refine pI 4 (some 43) HT_.out ?_
        refine pI 6 (some 45) HT_.out ?_
        refine pI 7 (some 46) HT_.out ?_
        refine tI2 5 (some 44) HT_.out HW_.out hHeld ?_
        refine tI2 8 (some 47) HT_.out HW_.out hHeld ?_
        refine pI 9 (some 48) HT_.out ?_
        refine pI 10 (some 49) HT_.out ?_
        refine oI 11 (some 50) HT_.out (fun K hK => ?_)
        refine goes_ Try.func27 (by kernel_rfl) rfl #[.int .i64 (rd y564 (ji10)), .int .i64 (wrap64 (1 + (Int.tmod (rd t554 1) 1008)))] (by rfl) rfl rfl (by (try simp only [List.map_toArray, List.map_cons, List.map_nil]); first | done | (simp only [hji10]; rfl) | rfl | (simp only [List.length_drop, List.length_take]; rfl)) ?_
        with_reducible refine (spec_ScAdd.calls (rd y564 (ji10)) (wrap64 (1 + (Int.tmod (rd t554 1) 1008))) t570 _ A14.out).mono ?_
        rintro e w' ⟨rfl, ⟨nd, rfl⟩⟩
        refine ⟨_, rfl, ?_⟩
        have p15 : 0 ≤ ((ji10) : Int) := of_decide_eq_true (by first | (with_reducible assumption) | assumption)
        have q15 : ((ji10) : Int) < ((y564.length : Int) : Int) := of_decide_eq_true (by first | (with_reducible assumption) | assumption)
        obtain ⟨go15, co15, eo15, gb15, gl15, cl15, HG15⟩ := Kd.R_form HO566.out (by omega)
        (first | cases eo15 | (injection eo15 with ea_ en_ ec_; (first | subst ea_ | (injection ea_ with ea_; subst ea_)); subst ec_; clear en_))
        have GB15 := Aside0.mk gb15
        have GG15 := Aside0.mk HG15
        clear gb15 gl15 HG15
        (first | simp only [add_plain] at hx568_0 | skip)
        obtain ⟨hx15_0, hf15_0⟩ := Kd.R_celln 0 HO566.out ((ji10) : Int) p15 q15
        replace p15 := eq_true p15
        replace q15 := eq_true q15
        have HP31 := Kd.R_putn HO566.out ((ji10) : Int) t570
        rw [← Ny571.out] at HP31
        have HQ31 := Aside0.mk HP31
        clear HP31
        refine hK.out _ _ ⟨hHeld.1, hHeld.2⟩ (fun hHeld => ?_)
        clear hK K
        refine nO (some 50) ?_
        refine pI 12 (some 51) HT_.out ?_
        refine last_ (i := 13) (N := none) #[true, true, true, true, true, true, true, true, true, true, true, true, true, true] rfl rfl (one_of HT_.out (by kernel_rfl)) (by decide) (fun K hK => ?_)
        refine skip_ (w1 := ?_) (by rfl) rfl ?_ ?_
        rotate_left
        ·go_simp
         rfl
        refine hK.out _ _ ?_
        clear hK K
        refine done_ (done_of HT_.out (by kernel_rfl)) ?_
        obtain ⟨hcz32_0, hcz32_1, hcz32_2, hfz32_0, hfz32_1, hfz32_2⟩ := bK3 (w := w29) BK553
        have hnbz_ : gb553 ≠ go15 := fun e_ => (Kd.R_ne HO566.out BK553.out (by decide)) (by rw [e_]; rfl)
        have hncz_ : go15 ≠ gb553 := hnbz_.symm
        try go_wp2_with (first | ((with_reducible refine gate_callee (f := 26) rfl ?_); refine goesL_ (some 55) rfl rfl Try.func26 (by kernel_rfl) rfl #[.agg #[.int .i64 t545, .int .i64 t546, .slice Ao20 t547.length co20], .slice (some ⟨go15, 0, none⟩) y571.length co30] rfl (by (try simp only [List.map_toArray, List.map_cons, List.map_nil]); first | done | (rw [show y571.length = y564.length from (Kd.R_reads' HQ31.out).1.symm] <;> rfl) | rfl | (simp only [List.length_drop, List.length_take]; rfl)) ?_; (with_reducible refine (impl_QuotientOf.calls k t545 t546 _ _ t547 _ _ y571 t572 t575 _ ?side1 ?side2 ?side3 ?side4 A16.out).mono ?_); (case side1 => refine (Kd.N_reads' (e := 40) (base := w.heap.size) (ok := fun k_ => ((some k_ ≠ (.slice Ao23 t550.length co23 : Value).ownBlock ∧ (some k_ ≠ (.slice (some ad567) t554.length co28 : Value).ownBlock ∧ (some k_ ≠ (v558 : Value).ownBlock ∧ k_ ≠ gb553))) ∧ some k_ ≠ (.slice (some ⟨go15, 0, none⟩) y564.length co30 : Value).ownBlock)) (n := t547.length) (c := co20) ?_).2.2; exact (by (with_reducible repeat (first | apply Kd.N_alloc | apply Kd.N_drewN | apply Kd.N_drew)); exact (Kd.N_mono (Kd.N_far (p := ⟨go15, ((ji10) : Int).toNat, none⟩) (Kd.N_mono HO549.out (fun k_ hk => (⟨hk, fun e_ => hk.2 (by rw [e_]; rfl)⟩ : _ ∧ k_ ≠ go15))) (fun _ hk => hk.2) (.int .i64 t570)) (fun _ h_ => h_.1)))); (case side2 => exact (Kd.N_reads' HO549.out).2.1); (case side3 => refine (Kd.R_reads' (e := 3) (base := w.heap.size) (ok := fun k_ => (some k_ ≠ (.slice Ao23 t550.length co23 : Value).ownBlock ∧ (some k_ ≠ (.slice (some ad567) t554.length co28 : Value).ownBlock ∧ some k_ ≠ (v558 : Value).ownBlock))) (n := y564.length) (c := co30) ?_).2.2; exact (rP HQ31)); (case side4 => rw [show y571.length = y564.length from (Kd.R_reads' HQ31.out).1.symm]; exact (Kd.R_reads' HO566.out).2.1); rintro e w33 ⟨v573, rfl, ho0, hb⟩; refine ⟨_, rfl, ?_⟩; replace HO549 := Aside0.mk (Kd.N_elder' (by (with_reducible repeat (first | apply Kd.N_alloc | apply Kd.N_drewN | apply Kd.N_drew)); exact (Kd.N_mono (Kd.N_far (p := ⟨go15, ((ji10) : Int).toNat, none⟩) (Kd.N_mono HO549.out (fun k_ hk => (⟨hk, fun e_ => hk.2 (by rw [e_]; rfl)⟩ : _ ∧ k_ ≠ go15))) (fun _ hk => hk.2) (.int .i64 t570)) (fun _ h_ => h_.1))) (Kd.R_base ho0) hb); have HO574 := Aside0.mk (Kd.R_lower (Kd.R_new' (Kd.R_new' (Kd.R_new' (Kd.R_new' ho0 (Kd.R_lt (by (with_reducible repeat (first | apply Kd.R_alloc | apply Kd.R_drewN | apply Kd.R_drew)); exact (Kd.R_mono (Kd.R_far (p := ⟨go15, ((ji10) : Int).toNat, none⟩) (Kd.R_mono HO552.out (fun k_ hk => (⟨hk, fun e_ => hk.2 (by rw [e_]; rfl)⟩ : _ ∧ k_ ≠ go15))) (fun _ hk => hk.2) (.int .i64 t570)) (fun _ h_ => h_.1))))) (Kd.R_lt (by (with_reducible repeat (first | apply Kd.R_alloc | apply Kd.R_drewN | apply Kd.R_drew)); exact (Kd.R_mono (Kd.R_far (p := ⟨go15, ((ji10) : Int).toNat, none⟩) (Kd.R_mono HO556.out (fun k_ hk => (⟨hk, fun e_ => hk.2 (by rw [e_]; rfl)⟩ : _ ∧ k_ ≠ go15))) (fun _ hk => hk.2) (.int .i64 t570)) (fun _ h_ => h_.1))))) (Kd.R_lt (by (with_reducible repeat (first | apply Kd.R_alloc | apply Kd.R_drewN | apply Kd.R_drew)); exact (Kd.R_mono (Kd.R_far (p := ⟨go15, ((ji10) : Int).toNat, none⟩) (Kd.R_mono HO559.out (fun k_ hk => (⟨hk, fun e_ => hk.2 (by rw [e_]; rfl)⟩ : _ ∧ k_ ≠ go15))) (fun _ hk => hk.2) (.int .i64 t570)) (fun _ h_ => h_.1))))) (Kd.R_lt (rP HQ31))) (below_size (by repeat (first | (with_reducible first | exact HB.out | apply below_alloc | apply pw_below_drewN | apply below_drew1 | refine below_set ?_ GB15.out | refine below_set ?_ GE553.out) | exact HB.out)))); replace HO552 := Aside0.mk (Kd.R_elder' (by (with_reducible repeat (first | apply Kd.R_alloc | apply Kd.R_drewN | apply Kd.R_drew)); exact (Kd.R_mono (Kd.R_far (p := ⟨go15, ((ji10) : Int).toNat, none⟩) (Kd.R_mono HO552.out (fun k_ hk => (⟨hk, fun e_ => hk.2 (by rw [e_]; rfl)⟩ : _ ∧ k_ ≠ go15))) (fun _ hk => hk.2) (.int .i64 t570)) (fun _ h_ => h_.1))) (Kd.R_base ho0) hb); replace HO556 := Aside0.mk (Kd.R_elder' (by (with_reducible repeat (first | apply Kd.R_alloc | apply Kd.R_drewN | apply Kd.R_drew)); exact (Kd.R_mono (Kd.R_far (p := ⟨go15, ((ji10) : Int).toNat, none⟩) (Kd.R_mono HO556.out (fun k_ hk => (⟨hk, fun e_ => hk.2 (by rw [e_]; rfl)⟩ : _ ∧ k_ ≠ go15))) (fun _ hk => hk.2) (.int .i64 t570)) (fun _ h_ => h_.1))) (Kd.R_base ho0) hb); replace HO559 := Aside0.mk (Kd.R_elder' (by (with_reducible repeat (first | apply Kd.R_alloc | apply Kd.R_drewN | apply Kd.R_drew)); exact (Kd.R_mono (Kd.R_far (p := ⟨go15, ((ji10) : Int).toNat, none⟩) (Kd.R_mono HO559.out (fun k_ hk => (⟨hk, fun e_ => hk.2 (by rw [e_]; rfl)⟩ : _ ∧ k_ ≠ go15))) (fun _ hk => hk.2) (.int .i64 t570)) (fun _ h_ => h_.1))) (Kd.R_base ho0) hb); replace BK553 := Aside0.mk (blk_below (g := gb553) (o := .cells #[.int .i64 t545, .int .i64 t546, .slice Ao20 t547.length co20] 32 (0, 0)) (by (with_reducible repeat (first | refine blk_drewN ?_ _ | refine blk_drew ?_ | refine blk_alloc ?_ _)); refine blk_far ?_ (by have h_ := Kd.R_ne HO566.out BK553.out (by decide); intro e_; exact h_ (by rw [e_]; rfl)) _; (with_reducible repeat (first | refine blk_drewN ?_ _ | refine blk_drew ?_ | refine blk_alloc ?_ _)); exact BK553.out) hb); replace HO566 := Aside0.mk (Kd.R_elder' (rP HQ31) (Kd.R_base ho0) hb); replace HB := Aside0.mk (below_step (by repeat (first | (with_reducible first | exact HB.out | apply below_alloc | apply pw_below_drewN | apply below_drew1 | refine below_set ?_ GB15.out | refine below_set ?_ GE553.out) | exact HB.out)) hb); (try clear hb); (try clear ho0)))
        go_loopg [12, 13] k (fun kq v12 v13 w' => ∃ (x12_1 : Bool) (x13_1 : Int), v12 = .bool x12_1 ∧ v13 = .int .i64 x13_1 ∧ Aside0 (laws_FnQaps.l0 kq t550 t554 t557 t560 y571 t575 x12_1 x13_1 t545 t546 t547 = some r) ∧ Aside0 (kq ≤ k) ∧ Aside0 (Kd.R (Kd.int .i64) 3 w' w.heap.size (fun k_ => some k_ ≠ ((.slice (some ad567) t554.length co28) : Value).ownBlock ∧ some k_ ≠ (v558 : Value).ownBlock ∧ some k_ ≠ ((.slice (some ⟨go15, 0, none⟩) y564.length co30) : Value).ownBlock) (.slice Ao23 t550.length co23) t550) ∧ Aside0 (Kd.R (Kd.int .i64) 3 w' w.heap.size (fun k_ => some k_ ≠ ((.slice Ao23 t550.length co23) : Value).ownBlock ∧ some k_ ≠ (v558 : Value).ownBlock ∧ some k_ ≠ ((.slice (some ⟨go15, 0, none⟩) y564.length co30) : Value).ownBlock) (.slice (some ad567) t554.length co28) t554) ∧ Aside0 (Kd.R (Kd.int .i64) 3 w' w.heap.size (fun k_ => some k_ ≠ ((.slice Ao23 t550.length co23) : Value).ownBlock ∧ some k_ ≠ ((.slice (some ad567) t554.length co28) : Value).ownBlock ∧ some k_ ≠ ((.slice (some ⟨go15, 0, none⟩) y564.length co30) : Value).ownBlock) v558 t557) ∧ Aside0 (Kd.R (Kd.int .i64) 3 w' w.heap.size (fun k_ => some k_ ≠ ((.slice Ao23 t550.length co23) : Value).ownBlock ∧ some k_ ≠ ((.slice (some ad567) t554.length co28) : Value).ownBlock ∧ some k_ ≠ (v558 : Value).ownBlock) (.slice (some ⟨go15, 0, none⟩) y564.length co30) y571) ∧ Aside0 (Kd.N k40 40 w' w.heap.size (fun k_ => some k_ ≠ ((.slice Ao23 t550.length co23) : Value).ownBlock ∧ some k_ ≠ ((.slice (some ad567) t554.length co28) : Value).ownBlock ∧ some k_ ≠ (v558 : Value).ownBlock ∧ some k_ ≠ ((.slice (some ⟨go15, 0, none⟩) y564.length co30) : Value).ownBlock ∧ k_ ≠ gb553) (.slice Ao20 t547.length co20) t547) ∧ Aside0 (w'.heap[gb553]? = some (.cells #[.int .i64 t545, .int .i64 t546, (.slice Ao20 t547.length co20)] 32 (0, 0))) ∧ Aside0 (Below w.heap.size w w'))
        case atStart => exact ⟨(true), (0), rS, rS, H', ⟨Nat.le_refl _⟩, ⟨by (with_reducible repeat (first | apply Kd.R_alloc | apply Kd.R_drewN | apply Kd.R_drew)); exact Kd.R_mono HO552.out (fun _ hk => ⟨hk.1.1.1, ⟨hk.1.1.2, hk.1.2⟩⟩)⟩, ⟨by (with_reducible repeat (first | apply Kd.R_alloc | apply Kd.R_drewN | apply Kd.R_drew)); exact Kd.R_mono HO556.out (fun _ hk => ⟨hk.1.1.1, ⟨hk.1.1.2, hk.1.2⟩⟩)⟩, ⟨by (with_reducible repeat (first | apply Kd.R_alloc | apply Kd.R_drewN | apply Kd.R_drew)); exact Kd.R_mono HO559.out (fun _ hk => ⟨hk.1.1.1, ⟨hk.1.1.2, hk.1.2⟩⟩)⟩, ⟨by (with_reducible repeat (first | apply Kd.R_alloc | apply Kd.R_drewN | apply Kd.R_drew)); exact Kd.R_mono HO566.out (fun _ hk => ⟨hk.1.1, ⟨hk.1.2.1, hk.1.2.2⟩⟩)⟩, ⟨by (with_reducible repeat (first | apply Kd.N_alloc | apply Kd.N_drewN | apply Kd.N_drew)); exact Kd.N_mono HO549.out (fun _ hk => ⟨hk.1.1.1, ⟨hk.1.1.2.1, ⟨hk.1.1.2.2.1, ⟨hk.1.2, hk.1.1.2.2.2⟩⟩⟩⟩)⟩, ⟨bP BK553⟩, ⟨bZ HB⟩⟩
        case round =>
         clear H'
         try clear c1
         try clear p1
         try clear q1
         try clear hx1
         try clear hf1
         try clear c2
         try clear p2
         try clear c3
         try clear c5
         try clear p5
         try clear q5
         try clear hx5
         try clear qi5
         try clear p6
         try clear c7
         try clear c8
         try clear c8b0
         try clear c8b1
         try clear c9
         try clear c9b0
         try clear c9b1
         try clear c9b2
         try clear c11
         try clear c11b0
         try clear c12
         try clear c12b0
         try clear c13
         try clear c13b0
         try clear c13b1
         try clear p15
         try clear q15
         try clear hx15
         try clear hf15
         try clear c23
         try clear c24
         try clear c25
         try clear c26
         try clear c27
         try clear hcz19_0
         try clear hcz19_1
         try clear hcz19_2
         try clear hcz22_0
         try clear hcz22_1
         try clear hcz22_2
         try clear hcz32_0
         try clear hcz32_1
         try clear hcz32_2
         try clear hfz19_0
         try clear hfz19_1
         try clear hfz19_2
         try clear hfz22_0
         try clear hfz22_1
         try clear hfz22_2
         try clear hfz32_0
         try clear hfz32_1
         try clear hfz32_2
         try clear hx15_0
         try clear hx567_0
         try clear hx568_0
         try clear hx569_0
         try clear p15
         try clear p567
         try clear p568
         try clear p569
         try clear q15
         try clear q567
         try clear q568
         try clear q569
         obtain ⟨x12_1, x13_1, rfl, rfl, HA, HK1, HO_4, HO_5, HO_6, HO_8, HO_554002, BK553, HB⟩ := hrel
         have hl8_1 := (Kd.R_reads' HO_8.out).1
         rw [hl8_1] at HO_8
         (try simp only [hl8_1])
         (try simp only [hl8_1] at BK553)
         (try simp only [hl8_1] at HO_4)
         (try simp only [hl8_1] at HO_5)
         (try simp only [hl8_1] at HO_6)
         (try simp only [hl8_1] at HO_554002)
         cases gk with
         | zero => exact absurd HA.out (by simp [laws_FnQaps.l0])
         | succ k1 =>
          have H := HA.out
          clear HA
          simp only [laws_FnQaps.l0] at H
          by_cases c34 : x13_1 < (t547.length : Int)
          ·rw [if_pos c34] at H
           have c34b0 := decide_eq_true c34
           clear c34
           by_cases c35 : 0 ≤ x13_1
           ·rw [if_pos c35] at H
            have c35b0 := decide_eq_true c35
            clear c35
            by_cases c36 : x12_1 = true
            ·subst c36
             rw [if_pos rfl] at H
             replace H := Option.bind_eq_some_iff.mp H
             obtain ⟨t580, A370, H⟩ := H
             have A37 := Aside0.mk A370
             clear A370
             replace H := Option.bind_eq_some_iff.mp H
             obtain ⟨t581, A380, H⟩ := H
             have A38 := Aside0.mk A380
             clear A380
             replace H := Option.bind_eq_some_iff.mp H
             obtain ⟨t582, A390, H⟩ := H
             have A39 := Aside0.mk A390
             clear A390
             replace H := Option.bind_eq_some_iff.mp H
             obtain ⟨t583, A400, H⟩ := H
             have A40 := Aside0.mk A400
             clear A400
             have H' := Aside0.mk H
             clear H
             obtain ⟨hcz41_0, hcz41_1, hcz41_2, hfz41_0, hfz41_1, hfz41_2⟩ := bK3 (w := wr) BK553
             have p578 : 0 ≤ (x13_1 : Int) := of_decide_eq_true (by first | (with_reducible assumption) | assumption)
             have q578 : x13_1 < (t547.length : Int) := of_decide_eq_true (by first | (with_reducible assumption) | assumption)
             obtain ⟨ad578, A578_0, c578_0, A578_1, c578_1, A578_2, c578_2, e578, hx578_0, hx578_1, hx578_2, hl578_0, hi578_0, hl578_1, hi578_1, hl578_2, hi578_2⟩ := at_T40 (Kd.N_reads' HO_554002.out).2.2 x13_1 p578 q578
             cases e578
             obtain ⟨ce578, hce578, hMe578, hcc578⟩ := Kd.N_get HO_554002.out z40 x13_1 p578 (by first | exact q578 | exact of_decide_eq_true (by first | (with_reducible assumption) | assumption) | (have e_ := (Kd.N_reads' HO_554002.out).1; omega))
             obtain ⟨ua578_0, uc578_0, ua578_1, uc578_1, ua578_2, uc578_2, rfl, ul578_0, ge578_0, ul578_1, ge578_1, ul578_2, ge578_2⟩ := k40_openF hMe578
             have hv578_0 := hcc578 0 _ rfl
             rw [Nat.add_zero] at hv578_0
             replace hv578_0 := Option.some.inj (hv578_0.symm.trans hx578_0)
             injection hv578_0 with hva_ hvn_ hvc_
             rw [hva_] at ge578_0
             rw [hvc_] at ul578_0
             have HL578_0 := Aside0.mk (show Kd.V (Kd.int .i64) 3 _ w.heap.size _ _ ((rd_T40 t547 x13_1).f0) from Kd.V_mk ul578_0 ge578_0)
             clear hva_ hvn_ hvc_ ge578_0 ul578_0
             have hv578_1 := hcc578 1 _ rfl
             rw [add_field _ _ 1 (by omega)] at hv578_1
             replace hv578_1 := Option.some.inj (hv578_1.symm.trans hx578_1)
             injection hv578_1 with hva_ hvn_ hvc_
             rw [hva_] at ge578_1
             rw [hvc_] at ul578_1
             have HL578_1 := Aside0.mk (show Kd.V (Kd.int .i64) 3 _ w.heap.size _ _ ((rd_T40 t547 x13_1).f1) from Kd.V_mk ul578_1 ge578_1)
             clear hva_ hvn_ hvc_ ge578_1 ul578_1
             have hv578_2 := hcc578 2 _ rfl
             rw [add_field _ _ 2 (by omega)] at hv578_2
             replace hv578_2 := Option.some.inj (hv578_2.symm.trans hx578_2)
             injection hv578_2 with hva_ hvn_ hvc_
             rw [hva_] at ge578_2
             rw [hvc_] at ul578_2
             have HL578_2 := Aside0.mk (show Kd.V (Kd.int .i64) 3 _ w.heap.size _ _ ((rd_T40 t547 x13_1).f2) from Kd.V_mk ul578_2 ge578_2)
             clear hva_ hvn_ hvc_ ge578_2 ul578_2
             clear hcc578 hce578
             have HR578_0 := Aside0.mk hi578_0
             have HC578_0 := Aside0.mk hl578_0
             clear hi578_0 hl578_0
             have HR578_1 := Aside0.mk hi578_1
             have HC578_1 := Aside0.mk hl578_1
             clear hi578_1 hl578_1
             have HR578_2 := Aside0.mk hi578_2
             have HC578_2 := Aside0.mk hl578_2
             clear hi578_2 hl578_2
             replace p578 := eq_true p578
             replace q578 := eq_true q578
             try go_wp2_with (first | ((with_reducible refine gate_dst (N := 14) rfl ?_); (try (refine gate_guard (by rfl) ?_; dsimp only)); refine box_event ?hg (N := 14) ?hd (cs := #[.slice none 0 0, .slice none 0 0, .slice none 0 0]) (t := 40) ?hr ?_; (case hd => rfl); (case hg => rfl); (case hr => first | (go_simp; done) | (go_simp; rfl)); intro gb579 hg w42 hbox hb; replace HO_4 := Aside0.mk (Kd.R_below (rP HO_4) hb); replace HO_5 := Aside0.mk (Kd.R_below (rP HO_5) hb); replace HO_6 := Aside0.mk (Kd.R_below (rP HO_6) hb); replace HO_8 := Aside0.mk (Kd.R_below (rP HO_8) hb); replace HO_554002 := Aside0.mk (Kd.N_below (Kd.N_elderB (by (with_reducible repeat (first | apply Kd.N_alloc | apply Kd.N_drewN | apply Kd.N_drew)); exact HO_554002.out) gb579 (Nat.le_of_eq hg.symm)) hb); replace HL578_0 := Aside0.mk (Kd.V_below (Kd.V_elderB (by (with_reducible repeat (first | apply Kd.V_alloc | apply Kd.V_drewN | apply Kd.V_drew)); exact HL578_0.out) gb579 (Nat.le_of_eq hg.symm)) hb); replace HL578_1 := Aside0.mk (Kd.V_below (Kd.V_elderB (by (with_reducible repeat (first | apply Kd.V_alloc | apply Kd.V_drewN | apply Kd.V_drew)); exact HL578_1.out) gb579 (Nat.le_of_eq hg.symm)) hb); replace HL578_2 := Aside0.mk (Kd.V_below (Kd.V_elderB (by (with_reducible repeat (first | apply Kd.V_alloc | apply Kd.V_drewN | apply Kd.V_drew)); exact HL578_2.out) gb579 (Nat.le_of_eq hg.symm)) hb); replace HR578_0 := Aside0.mk (Kd.C_below (by repeat (first | (with_reducible exact HR578_0.out) | (with_reducible refine Kd.C_alloc ?_ _) | (with_reducible refine Kd.C_drewN ?_ _) | (with_reducible refine Kd.C_drew ?_) | exact HR578_0.out)) hb); replace HR578_1 := Aside0.mk (Kd.C_below (by repeat (first | (with_reducible exact HR578_1.out) | (with_reducible refine Kd.C_alloc ?_ _) | (with_reducible refine Kd.C_drewN ?_ _) | (with_reducible refine Kd.C_drew ?_) | exact HR578_1.out)) hb); replace HR578_2 := Aside0.mk (Kd.C_below (by repeat (first | (with_reducible exact HR578_2.out) | (with_reducible refine Kd.C_alloc ?_ _) | (with_reducible refine Kd.C_drewN ?_ _) | (with_reducible refine Kd.C_drew ?_) | exact HR578_2.out)) hb); have BK579 := Aside0.mk (hbox); have GW579 := bG HB hg; replace HB := bS HB hb; obtain ⟨NB553_579, NB579_553⟩ := bN BK553 hg; replace BK553 := bB BK553 hb; clear hb hbox hg; obtain ⟨hnb43, hnc43⟩ := nB NB579_553; obtain ⟨hcz44_0, hcz44_1, hcz44_2, hfz44_0, hfz44_1, hfz44_2⟩ := bK3 (w := w42) BK579))
             obtain ⟨w45, hW_⟩ : ∃ W_ : World, W_ = (((w42.setCell ⟨gb579, 0, none⟩ (.slice A578_0 ((rd_T40 t547 x13_1).f0).length c578_0)).setCell ⟨gb579, 1, none⟩ (.slice A578_1 ((rd_T40 t547 x13_1).f1).length c578_1)).setCell ⟨gb579, 2, none⟩ (.slice A578_2 ((rd_T40 t547 x13_1).f2).length c578_2)) := ⟨_, rfl⟩
             have n0_ : Aside0 (Kd.R (Kd.int .i64) 3 (((w42.setCell ⟨gb579, 0, none⟩ (.slice A578_0 ((rd_T40 t547 x13_1).f0).length c578_0)).setCell ⟨gb579, 1, none⟩ (.slice A578_1 ((rd_T40 t547 x13_1).f1).length c578_1)).setCell ⟨gb579, 2, none⟩ (.slice A578_2 ((rd_T40 t547 x13_1).f2).length c578_2)) w.heap.size (fun k_ => some k_ ≠ (.slice (some ad567) t554.length co28 : Value).ownBlock ∧ some k_ ≠ (v558 : Value).ownBlock ∧ some k_ ≠ (.slice (some ⟨go15, 0, none⟩) y571.length co30 : Value).ownBlock) (.slice Ao23 t550.length co23) t550) := ⟨by (with_reducible repeat (first | apply Kd.R_alloc | apply Kd.R_drewN | apply Kd.R_drew)); exact Kd.R_mono (Kd.R_far (p := ⟨gb579, 2, none⟩) (Kd.R_far (p := ⟨gb579, 1, none⟩) (Kd.R_far (p := ⟨gb579, 0, none⟩) (Kd.R_types HO_4.out BK579.out (by decide)) (fun _ hk => hk.2) (.slice A578_0 ((rd_T40 t547 x13_1).f0).length c578_0)) (fun _ hk => hk.2) (.slice A578_1 ((rd_T40 t547 x13_1).f1).length c578_1)) (fun _ hk => hk.2) (.slice A578_2 ((rd_T40 t547 x13_1).f2).length c578_2)) (fun _ hk => ⟨hk.1.1, ⟨hk.1.2.1, hk.1.2.2⟩⟩)⟩
             rw [← hW_] at n0_
             have n1_ : Aside0 (Kd.R (Kd.int .i64) 3 (((w42.setCell ⟨gb579, 0, none⟩ (.slice A578_0 ((rd_T40 t547 x13_1).f0).length c578_0)).setCell ⟨gb579, 1, none⟩ (.slice A578_1 ((rd_T40 t547 x13_1).f1).length c578_1)).setCell ⟨gb579, 2, none⟩ (.slice A578_2 ((rd_T40 t547 x13_1).f2).length c578_2)) w.heap.size (fun k_ => some k_ ≠ (.slice Ao23 t550.length co23 : Value).ownBlock ∧ some k_ ≠ (v558 : Value).ownBlock ∧ some k_ ≠ (.slice (some ⟨go15, 0, none⟩) y571.length co30 : Value).ownBlock) (.slice (some ad567) t554.length co28) t554) := ⟨by (with_reducible repeat (first | apply Kd.R_alloc | apply Kd.R_drewN | apply Kd.R_drew)); exact Kd.R_mono (Kd.R_far (p := ⟨gb579, 2, none⟩) (Kd.R_far (p := ⟨gb579, 1, none⟩) (Kd.R_far (p := ⟨gb579, 0, none⟩) (Kd.R_types HO_5.out BK579.out (by decide)) (fun _ hk => hk.2) (.slice A578_0 ((rd_T40 t547 x13_1).f0).length c578_0)) (fun _ hk => hk.2) (.slice A578_1 ((rd_T40 t547 x13_1).f1).length c578_1)) (fun _ hk => hk.2) (.slice A578_2 ((rd_T40 t547 x13_1).f2).length c578_2)) (fun _ hk => ⟨hk.1.1, ⟨hk.1.2.1, hk.1.2.2⟩⟩)⟩
             rw [← hW_] at n1_
             have n2_ : Aside0 (Kd.R (Kd.int .i64) 3 (((w42.setCell ⟨gb579, 0, none⟩ (.slice A578_0 ((rd_T40 t547 x13_1).f0).length c578_0)).setCell ⟨gb579, 1, none⟩ (.slice A578_1 ((rd_T40 t547 x13_1).f1).length c578_1)).setCell ⟨gb579, 2, none⟩ (.slice A578_2 ((rd_T40 t547 x13_1).f2).length c578_2)) w.heap.size (fun k_ => some k_ ≠ (.slice Ao23 t550.length co23 : Value).ownBlock ∧ some k_ ≠ (.slice (some ad567) t554.length co28 : Value).ownBlock ∧ some k_ ≠ (.slice (some ⟨go15, 0, none⟩) y571.length co30 : Value).ownBlock) v558 t557) := ⟨by (with_reducible repeat (first | apply Kd.R_alloc | apply Kd.R_drewN | apply Kd.R_drew)); exact Kd.R_mono (Kd.R_far (p := ⟨gb579, 2, none⟩) (Kd.R_far (p := ⟨gb579, 1, none⟩) (Kd.R_far (p := ⟨gb579, 0, none⟩) (Kd.R_types HO_6.out BK579.out (by decide)) (fun _ hk => hk.2) (.slice A578_0 ((rd_T40 t547 x13_1).f0).length c578_0)) (fun _ hk => hk.2) (.slice A578_1 ((rd_T40 t547 x13_1).f1).length c578_1)) (fun _ hk => hk.2) (.slice A578_2 ((rd_T40 t547 x13_1).f2).length c578_2)) (fun _ hk => ⟨hk.1.1, ⟨hk.1.2.1, hk.1.2.2⟩⟩)⟩
             rw [← hW_] at n2_
             have n3_ : Aside0 (Kd.R (Kd.int .i64) 3 (((w42.setCell ⟨gb579, 0, none⟩ (.slice A578_0 ((rd_T40 t547 x13_1).f0).length c578_0)).setCell ⟨gb579, 1, none⟩ (.slice A578_1 ((rd_T40 t547 x13_1).f1).length c578_1)).setCell ⟨gb579, 2, none⟩ (.slice A578_2 ((rd_T40 t547 x13_1).f2).length c578_2)) w.heap.size (fun k_ => some k_ ≠ (.slice Ao23 t550.length co23 : Value).ownBlock ∧ some k_ ≠ (.slice (some ad567) t554.length co28 : Value).ownBlock ∧ some k_ ≠ (v558 : Value).ownBlock) (.slice (some ⟨go15, 0, none⟩) y571.length co30) y571) := ⟨by (with_reducible repeat (first | apply Kd.R_alloc | apply Kd.R_drewN | apply Kd.R_drew)); exact Kd.R_mono (Kd.R_far (p := ⟨gb579, 2, none⟩) (Kd.R_far (p := ⟨gb579, 1, none⟩) (Kd.R_far (p := ⟨gb579, 0, none⟩) (Kd.R_types HO_8.out BK579.out (by decide)) (fun _ hk => hk.2) (.slice A578_0 ((rd_T40 t547 x13_1).f0).length c578_0)) (fun _ hk => hk.2) (.slice A578_1 ((rd_T40 t547 x13_1).f1).length c578_1)) (fun _ hk => hk.2) (.slice A578_2 ((rd_T40 t547 x13_1).f2).length c578_2)) (fun _ hk => ⟨hk.1.1, ⟨hk.1.2.1, hk.1.2.2⟩⟩)⟩
             rw [← hW_] at n3_
             have n4_ : Aside0 (Kd.N k40 40 (((w42.setCell ⟨gb579, 0, none⟩ (.slice A578_0 ((rd_T40 t547 x13_1).f0).length c578_0)).setCell ⟨gb579, 1, none⟩ (.slice A578_1 ((rd_T40 t547 x13_1).f1).length c578_1)).setCell ⟨gb579, 2, none⟩ (.slice A578_2 ((rd_T40 t547 x13_1).f2).length c578_2)) w.heap.size (fun k_ => some k_ ≠ (.slice Ao23 t550.length co23 : Value).ownBlock ∧ some k_ ≠ (.slice (some ad567) t554.length co28 : Value).ownBlock ∧ some k_ ≠ (v558 : Value).ownBlock ∧ some k_ ≠ (.slice (some ⟨go15, 0, none⟩) y571.length co30 : Value).ownBlock ∧ k_ ≠ gb553 ∧ k_ ≠ gb579) (.slice (some ad578) t547.length co20) t547) := ⟨by (with_reducible repeat (first | apply Kd.N_alloc | apply Kd.N_drewN | apply Kd.N_drew)); exact Kd.N_mono (Kd.N_far (p := ⟨gb579, 2, none⟩) (Kd.N_far (p := ⟨gb579, 1, none⟩) (Kd.N_far (p := ⟨gb579, 0, none⟩) (Kd.N_mono HO_554002.out (fun k_ hk => (⟨hk, hk.2⟩ : _ ∧ k_ ≠ gb579))) (fun _ hk => hk.2) (.slice A578_0 ((rd_T40 t547 x13_1).f0).length c578_0)) (fun _ hk => hk.2) (.slice A578_1 ((rd_T40 t547 x13_1).f1).length c578_1)) (fun _ hk => hk.2) (.slice A578_2 ((rd_T40 t547 x13_1).f2).length c578_2)) (fun _ hk => ⟨hk.1.1.1, ⟨hk.1.1.2.1, ⟨hk.1.1.2.2.1, ⟨hk.1.1.2.2.2.1, ⟨hk.1.1.2.2.2.2, hk.1.2⟩⟩⟩⟩⟩)⟩
             rw [← hW_] at n4_
             have n5_ : Aside0 (Kd.V (Kd.int .i64) 3 (((w42.setCell ⟨gb579, 0, none⟩ (.slice A578_0 ((rd_T40 t547 x13_1).f0).length c578_0)).setCell ⟨gb579, 1, none⟩ (.slice A578_1 ((rd_T40 t547 x13_1).f1).length c578_1)).setCell ⟨gb579, 2, none⟩ (.slice A578_2 ((rd_T40 t547 x13_1).f2).length c578_2)) w.heap.size (fun k_ => some k_ ≠ (.slice Ao23 t550.length co23 : Value).ownBlock ∧ some k_ ≠ (.slice (some ad567) t554.length co28 : Value).ownBlock ∧ some k_ ≠ (v558 : Value).ownBlock ∧ some k_ ≠ (.slice (some ⟨go15, 0, none⟩) y571.length co30 : Value).ownBlock ∧ some k_ ≠ (.slice (some ad578) t547.length co20 : Value).ownBlock ∧ k_ ≠ gb553 ∧ k_ ≠ gb579) (.slice A578_0 ((rd_T40 t547 x13_1).f0).length c578_0) ((rd_T40 t547 x13_1).f0)) := ⟨by (with_reducible repeat (first | apply Kd.V_alloc | apply Kd.V_drewN | apply Kd.V_drew)); exact Kd.V_mono (Kd.V_far (p := ⟨gb579, 2, none⟩) (Kd.V_far (p := ⟨gb579, 1, none⟩) (Kd.V_far (p := ⟨gb579, 0, none⟩) (Kd.V_mono HL578_0.out (fun k_ hk => (⟨hk, hk.2⟩ : _ ∧ k_ ≠ gb579))) (fun _ hk => hk.2) (.slice A578_0 ((rd_T40 t547 x13_1).f0).length c578_0)) (fun _ hk => hk.2) (.slice A578_1 ((rd_T40 t547 x13_1).f1).length c578_1)) (fun _ hk => hk.2) (.slice A578_2 ((rd_T40 t547 x13_1).f2).length c578_2)) (fun _ hk => ⟨hk.1.1.1.1, ⟨hk.1.1.1.2.1, ⟨hk.1.1.1.2.2.1, ⟨hk.1.1.1.2.2.2.1, ⟨hk.1.1.2, ⟨hk.1.1.1.2.2.2.2, hk.1.2⟩⟩⟩⟩⟩⟩)⟩
             rw [← hW_] at n5_
             have n6_ : Aside0 (Kd.V (Kd.int .i64) 3 (((w42.setCell ⟨gb579, 0, none⟩ (.slice A578_0 ((rd_T40 t547 x13_1).f0).length c578_0)).setCell ⟨gb579, 1, none⟩ (.slice A578_1 ((rd_T40 t547 x13_1).f1).length c578_1)).setCell ⟨gb579, 2, none⟩ (.slice A578_2 ((rd_T40 t547 x13_1).f2).length c578_2)) w.heap.size (fun k_ => some k_ ≠ (.slice Ao23 t550.length co23 : Value).ownBlock ∧ some k_ ≠ (.slice (some ad567) t554.length co28 : Value).ownBlock ∧ some k_ ≠ (v558 : Value).ownBlock ∧ some k_ ≠ (.slice (some ⟨go15, 0, none⟩) y571.length co30 : Value).ownBlock ∧ some k_ ≠ (.slice (some ad578) t547.length co20 : Value).ownBlock ∧ k_ ≠ gb553 ∧ k_ ≠ gb579) (.slice A578_1 ((rd_T40 t547 x13_1).f1).length c578_1) ((rd_T40 t547 x13_1).f1)) := ⟨by (with_reducible repeat (first | apply Kd.V_alloc | apply Kd.V_drewN | apply Kd.V_drew)); exact Kd.V_mono (Kd.V_far (p := ⟨gb579, 2, none⟩) (Kd.V_far (p := ⟨gb579, 1, none⟩) (Kd.V_far (p := ⟨gb579, 0, none⟩) (Kd.V_mono HL578_1.out (fun k_ hk => (⟨hk, hk.2⟩ : _ ∧ k_ ≠ gb579))) (fun _ hk => hk.2) (.slice A578_0 ((rd_T40 t547 x13_1).f0).length c578_0)) (fun _ hk => hk.2) (.slice A578_1 ((rd_T40 t547 x13_1).f1).length c578_1)) (fun _ hk => hk.2) (.slice A578_2 ((rd_T40 t547 x13_1).f2).length c578_2)) (fun _ hk => ⟨hk.1.1.1.1, ⟨hk.1.1.1.2.1, ⟨hk.1.1.1.2.2.1, ⟨hk.1.1.1.2.2.2.1, ⟨hk.1.1.2, ⟨hk.1.1.1.2.2.2.2, hk.1.2⟩⟩⟩⟩⟩⟩)⟩
             rw [← hW_] at n6_
             have n7_ : Aside0 (Kd.V (Kd.int .i64) 3 (((w42.setCell ⟨gb579, 0, none⟩ (.slice A578_0 ((rd_T40 t547 x13_1).f0).length c578_0)).setCell ⟨gb579, 1, none⟩ (.slice A578_1 ((rd_T40 t547 x13_1).f1).length c578_1)).setCell ⟨gb579, 2, none⟩ (.slice A578_2 ((rd_T40 t547 x13_1).f2).length c578_2)) w.heap.size (fun k_ => some k_ ≠ (.slice Ao23 t550.length co23 : Value).ownBlock ∧ some k_ ≠ (.slice (some ad567) t554.length co28 : Value).ownBlock ∧ some k_ ≠ (v558 : Value).ownBlock ∧ some k_ ≠ (.slice (some ⟨go15, 0, none⟩) y571.length co30 : Value).ownBlock ∧ some k_ ≠ (.slice (some ad578) t547.length co20 : Value).ownBlock ∧ k_ ≠ gb553 ∧ k_ ≠ gb579) (.slice A578_2 ((rd_T40 t547 x13_1).f2).length c578_2) ((rd_T40 t547 x13_1).f2)) := ⟨by (with_reducible repeat (first | apply Kd.V_alloc | apply Kd.V_drewN | apply Kd.V_drew)); exact Kd.V_mono (Kd.V_far (p := ⟨gb579, 2, none⟩) (Kd.V_far (p := ⟨gb579, 1, none⟩) (Kd.V_far (p := ⟨gb579, 0, none⟩) (Kd.V_mono HL578_2.out (fun k_ hk => (⟨hk, hk.2⟩ : _ ∧ k_ ≠ gb579))) (fun _ hk => hk.2) (.slice A578_0 ((rd_T40 t547 x13_1).f0).length c578_0)) (fun _ hk => hk.2) (.slice A578_1 ((rd_T40 t547 x13_1).f1).length c578_1)) (fun _ hk => hk.2) (.slice A578_2 ((rd_T40 t547 x13_1).f2).length c578_2)) (fun _ hk => ⟨hk.1.1.1.1, ⟨hk.1.1.1.2.1, ⟨hk.1.1.1.2.2.1, ⟨hk.1.1.1.2.2.2.1, ⟨hk.1.1.2, ⟨hk.1.1.1.2.2.2.2, hk.1.2⟩⟩⟩⟩⟩⟩)⟩
             rw [← hW_] at n7_
             replace BK553 := bW hW_ BK553
             replace BK579 := bX hW_ 40 #[.slice A578_0 ((rd_T40 t547 x13_1).f0).length c578_0, .slice A578_1 ((rd_T40 t547 x13_1).f1).length c578_1, .slice A578_2 ((rd_T40 t547 x13_1).f2).length c578_2] BK579
             (try clear HO_4)
             (try clear HO_5)
             (try clear HO_6)
             (try clear HO_8)
             (try clear HO_554002)
             (try clear HL578_0)
             (try clear HL578_1)
             (try clear HL578_2)
             have HO_4 := n0_
             clear n0_
             have HO_5 := n1_
             clear n1_
             have HO_6 := n2_
             clear n2_
             have HO_8 := n3_
             clear n3_
             have HO_554002 := n4_
             clear n4_
             have HL578_0 := n5_
             clear n5_
             have HL578_1 := n6_
             clear n6_
             have HL578_2 := n7_
             clear n7_
             replace HB := zW hW_ HB
             rw [← hW_]
             clear hW_
             replace HO_4 := Aside0.mk (Kd.R_drew HO_4.out)
             replace HO_5 := Aside0.mk (Kd.R_drew HO_5.out)
             replace HO_6 := Aside0.mk (Kd.R_drew HO_6.out)
             replace HO_8 := Aside0.mk (Kd.R_drew HO_8.out)
             replace HO_554002 := Aside0.mk (Kd.N_drew HO_554002.out)
             replace HL578_0 := Aside0.mk (Kd.V_drew HL578_0.out)
             replace HL578_1 := Aside0.mk (Kd.V_drew HL578_1.out)
             replace HL578_2 := Aside0.mk (Kd.V_drew HL578_2.out)
             replace BK553 := Aside0.mk (blk_drew BK553.out)
             replace BK579 := Aside0.mk (blk_drew BK579.out)
             replace HB := Aside0.mk (below_drew1 HB.out)
             refine start_ (n := 18) (S := fun w' => SQ3 w' gb579 (.slice A578_0 ((rd_T40 t547 x13_1).f0).length c578_0) (.slice A578_1 ((rd_T40 t547 x13_1).f1).length c578_1) (.slice A578_2 ((rd_T40 t547 x13_1).f2).length c578_2)) (ds := []) #[false, false, false, false, false, false, false, false, false, false, false, false, false, false, false, false, false, false] (by kernel_rfl) rfl rfl (bT3 BK579) (fun hHeld => ?_); refine with_tabW laws_FnQaps.tab15 laws_FnQaps.bits15 (fun HT_ HW_ => ?_)
             generalize w45.drew = w46 at HO_4 HO_5 HO_6 HO_8 HO_554002 HL578_0 HL578_1 HL578_2 BK553 BK579 HB hHeld ⊢
             refine pI 0 (some 70) HT_.out ?_
             refine pI 1 (some 71) HT_.out ?_
             refine pI 2 (some 72) HT_.out ?_
             refine pI 4 (some 74) HT_.out ?_
             refine pI 6 (some 76) HT_.out ?_
             refine pI 8 (some 78) HT_.out ?_
             refine pI 11 (some 81) HT_.out ?_
             refine pI 13 (some 83) HT_.out ?_
             refine tI3 3 (some 73) HT_.out HW_.out hHeld ?_
             refine tI3 7 (some 77) HT_.out HW_.out hHeld ?_
             refine tI3 12 (some 82) HT_.out HW_.out hHeld ?_
             refine oI 5 (some 75) HT_.out (fun K hK => ?_)
             refine gO Try.func29 #[.slice A578_0 ((rd_T40 t547 x13_1).f0).length c578_0, .slice (some ⟨go15, 0, none⟩) y571.length co30] ?_
             with_reducible refine (spec_ScDot.calls k1 _ _ ((rd_T40 t547 x13_1).f0) _ _ y571 t580 _ ?side1 ?side2 ?side3 ?side4 A37.out).mono ?_
             (case side1 => repeat (first | exact ((Kd.V_reads' (by (with_reducible repeat (first | apply Kd.V_alloc | apply Kd.V_drewN | apply Kd.V_drew)); exact HL578_0.out)).2.2) | (with_reducible refine Kd.C_alloc ?_ _) | (with_reducible refine Kd.C_drewN ?_ _) | (with_reducible refine Kd.C_drew ?_)))
             (case side2 => exact HC578_0.out)
             (case side3 => exact cP ((Kd.R_reads' HO_8.out).2.2))
             (case side4 => exact (Kd.R_reads' HO_8.out).2.1)
             rintro e w' ⟨rfl, ⟨nd, rfl⟩⟩
             refine ⟨_, rfl, ?_⟩
             refine hK.out _ _ (bT3 BK579) (fun hHeld => ?_)
             clear hK K
             refine nO (some 75) ?_
             refine oI 9 (some 79) HT_.out (fun K hK => ?_)
             refine gO Try.func29 #[.slice A578_1 ((rd_T40 t547 x13_1).f1).length c578_1, .slice (some ⟨go15, 0, none⟩) y571.length co30] ?_
             with_reducible refine (spec_ScDot.calls k1 _ _ ((rd_T40 t547 x13_1).f1) _ _ y571 t581 _ ?side1 ?side2 ?side3 ?side4 A38.out).mono ?_
             (case side1 => repeat (first | exact ((Kd.V_reads' (by (with_reducible repeat (first | apply Kd.V_alloc | apply Kd.V_drewN | apply Kd.V_drew)); exact HL578_1.out)).2.2) | (with_reducible refine Kd.C_alloc ?_ _) | (with_reducible refine Kd.C_drewN ?_ _) | (with_reducible refine Kd.C_drew ?_)))
             (case side2 => exact HC578_1.out)
             (case side3 => exact cP ((Kd.R_reads' HO_8.out).2.2))
             (case side4 => exact (Kd.R_reads' HO_8.out).2.1)
             rintro e w' ⟨rfl, ⟨nd, rfl⟩⟩
             refine ⟨_, rfl, ?_⟩
             refine hK.out _ _ (bT3 BK579) (fun hHeld => ?_)
             clear hK K
             refine nO (some 79) ?_
             refine oI 10 (some 80) HT_.out (fun K hK => ?_)
             refine gO Try.func28 #[.int .i64 t580, .int .i64 t581] ?_
             with_reducible refine (spec_ScMul.calls t580 t581 t582 _ A39.out).mono ?_
             rintro e w' ⟨rfl, ⟨nd, rfl⟩⟩
             refine ⟨_, rfl, ?_⟩
             refine hK.out _ _ (bT3 BK579) (fun hHeld => ?_)
             clear hK K
             refine nO (some 80) ?_
             refine oI 14 (some 84) HT_.out (fun K hK => ?_)
             refine gO Try.func29 #[.slice A578_2 ((rd_T40 t547 x13_1).f2).length c578_2, .slice (some ⟨go15, 0, none⟩) y571.length co30] ?_
             with_reducible refine (spec_ScDot.calls k1 _ _ ((rd_T40 t547 x13_1).f2) _ _ y571 t583 _ ?side1 ?side2 ?side3 ?side4 A40.out).mono ?_
             (case side1 => repeat (first | exact ((Kd.V_reads' (by (with_reducible repeat (first | apply Kd.V_alloc | apply Kd.V_drewN | apply Kd.V_drew)); exact HL578_2.out)).2.2) | (with_reducible refine Kd.C_alloc ?_ _) | (with_reducible refine Kd.C_drewN ?_ _) | (with_reducible refine Kd.C_drew ?_)))
             (case side2 => exact HC578_2.out)
             (case side3 => exact cP ((Kd.R_reads' HO_8.out).2.2))
             (case side4 => exact (Kd.R_reads' HO_8.out).2.1)
             rintro e w' ⟨rfl, ⟨nd, rfl⟩⟩
             refine ⟨_, rfl, ?_⟩
             refine hK.out _ _ (bT3 BK579) (fun hHeld => ?_)
             clear hK K
             refine nO (some 84) ?_
             refine pI 15 (some 85) HT_.out ?_
             refine pI 16 (some 86) HT_.out ?_
             refine pI 17 (some 12) HT_.out ?_
             refine done_ (done_of HT_.out (by kernel_rfl)) ?_
             try go_wp2
             (try simp only [← hl8_1])
             go_roundg k1
             case measure => have := HK1.out; omega
             case rel => exact ⟨((t582 == t583)), (wrap64 (x13_1 + 1)), rS, rS, H', ⟨by have := HK1.out; omega⟩, ⟨by (try simp only [hl8_1]); (with_reducible repeat (first | apply Kd.R_alloc | apply Kd.R_drewN | apply Kd.R_drew)); exact HO_4.out⟩, ⟨by (try simp only [hl8_1]); (with_reducible repeat (first | apply Kd.R_alloc | apply Kd.R_drewN | apply Kd.R_drew)); exact HO_5.out⟩, ⟨by (try simp only [hl8_1]); (with_reducible repeat (first | apply Kd.R_alloc | apply Kd.R_drewN | apply Kd.R_drew)); exact HO_6.out⟩, ⟨by (try simp only [hl8_1]); (with_reducible repeat (first | apply Kd.R_alloc | apply Kd.R_drewN | apply Kd.R_drew)); exact HO_8.out⟩, ⟨by (try simp only [hl8_1]); (with_reducible repeat (first | apply Kd.N_alloc | apply Kd.N_drewN | apply Kd.N_drew)); exact Kd.N_mono HO_554002.out (fun _ hk => ⟨hk.1, ⟨hk.2.1, ⟨hk.2.2.1, ⟨hk.2.2.2.1, hk.2.2.2.2.1⟩⟩⟩⟩)⟩, ⟨by (try simp only [hl8_1]); (with_reducible repeat (first | refine blk_drewN ?_ _ | refine blk_drew ?_ | refine blk_alloc ?_ _)); exact BK553.out⟩, ⟨bZ HB⟩⟩
            ·replace c36 := Bool.eq_false_iff.mpr c36
             subst c36
             rw [if_neg (show ¬ (false = true) by decide)] at H
             have H' := Aside0.mk H
             clear H
             obtain ⟨hcz47_0, hcz47_1, hcz47_2, hfz47_0, hfz47_1, hfz47_2⟩ := bK3 (w := wr) BK553
             have p578 : 0 ≤ (x13_1 : Int) := of_decide_eq_true (by first | (with_reducible assumption) | assumption)
             have q578 : x13_1 < (t547.length : Int) := of_decide_eq_true (by first | (with_reducible assumption) | assumption)
             obtain ⟨ad578, A578_0, c578_0, A578_1, c578_1, A578_2, c578_2, e578, hx578_0, hx578_1, hx578_2, hl578_0, hi578_0, hl578_1, hi578_1, hl578_2, hi578_2⟩ := at_T40 (Kd.N_reads' HO_554002.out).2.2 x13_1 p578 q578
             cases e578
             obtain ⟨ce578, hce578, hMe578, hcc578⟩ := Kd.N_get HO_554002.out z40 x13_1 p578 (by first | exact q578 | exact of_decide_eq_true (by first | (with_reducible assumption) | assumption) | (have e_ := (Kd.N_reads' HO_554002.out).1; omega))
             obtain ⟨ua578_0, uc578_0, ua578_1, uc578_1, ua578_2, uc578_2, rfl, ul578_0, ge578_0, ul578_1, ge578_1, ul578_2, ge578_2⟩ := k40_openF hMe578
             have hv578_0 := hcc578 0 _ rfl
             rw [Nat.add_zero] at hv578_0
             replace hv578_0 := Option.some.inj (hv578_0.symm.trans hx578_0)
             injection hv578_0 with hva_ hvn_ hvc_
             rw [hva_] at ge578_0
             rw [hvc_] at ul578_0
             have HL578_0 := Aside0.mk (show Kd.V (Kd.int .i64) 3 _ w.heap.size _ _ ((rd_T40 t547 x13_1).f0) from Kd.V_mk ul578_0 ge578_0)
             clear hva_ hvn_ hvc_ ge578_0 ul578_0
             have hv578_1 := hcc578 1 _ rfl
             rw [add_field _ _ 1 (by omega)] at hv578_1
             replace hv578_1 := Option.some.inj (hv578_1.symm.trans hx578_1)
             injection hv578_1 with hva_ hvn_ hvc_
             rw [hva_] at ge578_1
             rw [hvc_] at ul578_1
             have HL578_1 := Aside0.mk (show Kd.V (Kd.int .i64) 3 _ w.heap.size _ _ ((rd_T40 t547 x13_1).f1) from Kd.V_mk ul578_1 ge578_1)
             clear hva_ hvn_ hvc_ ge578_1 ul578_1
             have hv578_2 := hcc578 2 _ rfl
             rw [add_field _ _ 2 (by omega)] at hv578_2
             replace hv578_2 := Option.some.inj (hv578_2.symm.trans hx578_2)
             injection hv578_2 with hva_ hvn_ hvc_
             rw [hva_] at ge578_2
             rw [hvc_] at ul578_2
             have HL578_2 := Aside0.mk (show Kd.V (Kd.int .i64) 3 _ w.heap.size _ _ ((rd_T40 t547 x13_1).f2) from Kd.V_mk ul578_2 ge578_2)
             clear hva_ hvn_ hvc_ ge578_2 ul578_2
             clear hcc578 hce578
             have HR578_0 := Aside0.mk hi578_0
             have HC578_0 := Aside0.mk hl578_0
             clear hi578_0 hl578_0
             have HR578_1 := Aside0.mk hi578_1
             have HC578_1 := Aside0.mk hl578_1
             clear hi578_1 hl578_1
             have HR578_2 := Aside0.mk hi578_2
             have HC578_2 := Aside0.mk hl578_2
             clear hi578_2 hl578_2
             replace p578 := eq_true p578
             replace q578 := eq_true q578
             try go_wp2_with (first | ((with_reducible refine gate_dst (N := 14) rfl ?_); (try (refine gate_guard (by rfl) ?_; dsimp only)); refine box_event ?hg (N := 14) ?hd (cs := #[.slice none 0 0, .slice none 0 0, .slice none 0 0]) (t := 40) ?hr ?_; (case hd => rfl); (case hg => rfl); (case hr => first | (go_simp; done) | (go_simp; rfl)); intro gb579 hg w48 hbox hb; replace HO_4 := Aside0.mk (Kd.R_below (rP HO_4) hb); replace HO_5 := Aside0.mk (Kd.R_below (rP HO_5) hb); replace HO_6 := Aside0.mk (Kd.R_below (rP HO_6) hb); replace HO_8 := Aside0.mk (Kd.R_below (rP HO_8) hb); replace HO_554002 := Aside0.mk (Kd.N_below (Kd.N_elderB (by (with_reducible repeat (first | apply Kd.N_alloc | apply Kd.N_drewN | apply Kd.N_drew)); exact HO_554002.out) gb579 (Nat.le_of_eq hg.symm)) hb); replace HL578_0 := Aside0.mk (Kd.V_below (Kd.V_elderB (by (with_reducible repeat (first | apply Kd.V_alloc | apply Kd.V_drewN | apply Kd.V_drew)); exact HL578_0.out) gb579 (Nat.le_of_eq hg.symm)) hb); replace HL578_1 := Aside0.mk (Kd.V_below (Kd.V_elderB (by (with_reducible repeat (first | apply Kd.V_alloc | apply Kd.V_drewN | apply Kd.V_drew)); exact HL578_1.out) gb579 (Nat.le_of_eq hg.symm)) hb); replace HL578_2 := Aside0.mk (Kd.V_below (Kd.V_elderB (by (with_reducible repeat (first | apply Kd.V_alloc | apply Kd.V_drewN | apply Kd.V_drew)); exact HL578_2.out) gb579 (Nat.le_of_eq hg.symm)) hb); replace HR578_0 := Aside0.mk (Kd.C_below (by repeat (first | (with_reducible exact HR578_0.out) | (with_reducible refine Kd.C_alloc ?_ _) | (with_reducible refine Kd.C_drewN ?_ _) | (with_reducible refine Kd.C_drew ?_) | exact HR578_0.out)) hb); replace HR578_1 := Aside0.mk (Kd.C_below (by repeat (first | (with_reducible exact HR578_1.out) | (with_reducible refine Kd.C_alloc ?_ _) | (with_reducible refine Kd.C_drewN ?_ _) | (with_reducible refine Kd.C_drew ?_) | exact HR578_1.out)) hb); replace HR578_2 := Aside0.mk (Kd.C_below (by repeat (first | (with_reducible exact HR578_2.out) | (with_reducible refine Kd.C_alloc ?_ _) | (with_reducible refine Kd.C_drewN ?_ _) | (with_reducible refine Kd.C_drew ?_) | exact HR578_2.out)) hb); have BK579 := Aside0.mk (hbox); have GW579 := bG HB hg; replace HB := bS HB hb; obtain ⟨NB553_579, NB579_553⟩ := bN BK553 hg; replace BK553 := bB BK553 hb; clear hb hbox hg; obtain ⟨hnb49, hnc49⟩ := nB NB579_553; obtain ⟨hcz50_0, hcz50_1, hcz50_2, hfz50_0, hfz50_1, hfz50_2⟩ := bK3 (w := w48) BK579))
             obtain ⟨w51, hW_⟩ : ∃ W_ : World, W_ = (((w48.setCell ⟨gb579, 0, none⟩ (.slice A578_0 ((rd_T40 t547 x13_1).f0).length c578_0)).setCell ⟨gb579, 1, none⟩ (.slice A578_1 ((rd_T40 t547 x13_1).f1).length c578_1)).setCell ⟨gb579, 2, none⟩ (.slice A578_2 ((rd_T40 t547 x13_1).f2).length c578_2)) := ⟨_, rfl⟩
             have n0_ : Aside0 (Kd.R (Kd.int .i64) 3 (((w48.setCell ⟨gb579, 0, none⟩ (.slice A578_0 ((rd_T40 t547 x13_1).f0).length c578_0)).setCell ⟨gb579, 1, none⟩ (.slice A578_1 ((rd_T40 t547 x13_1).f1).length c578_1)).setCell ⟨gb579, 2, none⟩ (.slice A578_2 ((rd_T40 t547 x13_1).f2).length c578_2)) w.heap.size (fun k_ => some k_ ≠ (.slice (some ad567) t554.length co28 : Value).ownBlock ∧ some k_ ≠ (v558 : Value).ownBlock ∧ some k_ ≠ (.slice (some ⟨go15, 0, none⟩) y571.length co30 : Value).ownBlock) (.slice Ao23 t550.length co23) t550) := ⟨by (with_reducible repeat (first | apply Kd.R_alloc | apply Kd.R_drewN | apply Kd.R_drew)); exact Kd.R_mono (Kd.R_far (p := ⟨gb579, 2, none⟩) (Kd.R_far (p := ⟨gb579, 1, none⟩) (Kd.R_far (p := ⟨gb579, 0, none⟩) (Kd.R_types HO_4.out BK579.out (by decide)) (fun _ hk => hk.2) (.slice A578_0 ((rd_T40 t547 x13_1).f0).length c578_0)) (fun _ hk => hk.2) (.slice A578_1 ((rd_T40 t547 x13_1).f1).length c578_1)) (fun _ hk => hk.2) (.slice A578_2 ((rd_T40 t547 x13_1).f2).length c578_2)) (fun _ hk => ⟨hk.1.1, ⟨hk.1.2.1, hk.1.2.2⟩⟩)⟩
             rw [← hW_] at n0_
             have n1_ : Aside0 (Kd.R (Kd.int .i64) 3 (((w48.setCell ⟨gb579, 0, none⟩ (.slice A578_0 ((rd_T40 t547 x13_1).f0).length c578_0)).setCell ⟨gb579, 1, none⟩ (.slice A578_1 ((rd_T40 t547 x13_1).f1).length c578_1)).setCell ⟨gb579, 2, none⟩ (.slice A578_2 ((rd_T40 t547 x13_1).f2).length c578_2)) w.heap.size (fun k_ => some k_ ≠ (.slice Ao23 t550.length co23 : Value).ownBlock ∧ some k_ ≠ (v558 : Value).ownBlock ∧ some k_ ≠ (.slice (some ⟨go15, 0, none⟩) y571.length co30 : Value).ownBlock) (.slice (some ad567) t554.length co28) t554) := ⟨by (with_reducible repeat (first | apply Kd.R_alloc | apply Kd.R_drewN | apply Kd.R_drew)); exact Kd.R_mono (Kd.R_far (p := ⟨gb579, 2, none⟩) (Kd.R_far (p := ⟨gb579, 1, none⟩) (Kd.R_far (p := ⟨gb579, 0, none⟩) (Kd.R_types HO_5.out BK579.out (by decide)) (fun _ hk => hk.2) (.slice A578_0 ((rd_T40 t547 x13_1).f0).length c578_0)) (fun _ hk => hk.2) (.slice A578_1 ((rd_T40 t547 x13_1).f1).length c578_1)) (fun _ hk => hk.2) (.slice A578_2 ((rd_T40 t547 x13_1).f2).length c578_2)) (fun _ hk => ⟨hk.1.1, ⟨hk.1.2.1, hk.1.2.2⟩⟩)⟩
             rw [← hW_] at n1_
             have n2_ : Aside0 (Kd.R (Kd.int .i64) 3 (((w48.setCell ⟨gb579, 0, none⟩ (.slice A578_0 ((rd_T40 t547 x13_1).f0).length c578_0)).setCell ⟨gb579, 1, none⟩ (.slice A578_1 ((rd_T40 t547 x13_1).f1).length c578_1)).setCell ⟨gb579, 2, none⟩ (.slice A578_2 ((rd_T40 t547 x13_1).f2).length c578_2)) w.heap.size (fun k_ => some k_ ≠ (.slice Ao23 t550.length co23 : Value).ownBlock ∧ some k_ ≠ (.slice (some ad567) t554.length co28 : Value).ownBlock ∧ some k_ ≠ (.slice (some ⟨go15, 0, none⟩) y571.length co30 : Value).ownBlock) v558 t557) := ⟨by (with_reducible repeat (first | apply Kd.R_alloc | apply Kd.R_drewN | apply Kd.R_drew)); exact Kd.R_mono (Kd.R_far (p := ⟨gb579, 2, none⟩) (Kd.R_far (p := ⟨gb579, 1, none⟩) (Kd.R_far (p := ⟨gb579, 0, none⟩) (Kd.R_types HO_6.out BK579.out (by decide)) (fun _ hk => hk.2) (.slice A578_0 ((rd_T40 t547 x13_1).f0).length c578_0)) (fun _ hk => hk.2) (.slice A578_1 ((rd_T40 t547 x13_1).f1).length c578_1)) (fun _ hk => hk.2) (.slice A578_2 ((rd_T40 t547 x13_1).f2).length c578_2)) (fun _ hk => ⟨hk.1.1, ⟨hk.1.2.1, hk.1.2.2⟩⟩)⟩
             rw [← hW_] at n2_
             have n3_ : Aside0 (Kd.R (Kd.int .i64) 3 (((w48.setCell ⟨gb579, 0, none⟩ (.slice A578_0 ((rd_T40 t547 x13_1).f0).length c578_0)).setCell ⟨gb579, 1, none⟩ (.slice A578_1 ((rd_T40 t547 x13_1).f1).length c578_1)).setCell ⟨gb579, 2, none⟩ (.slice A578_2 ((rd_T40 t547 x13_1).f2).length c578_2)) w.heap.size (fun k_ => some k_ ≠ (.slice Ao23 t550.length co23 : Value).ownBlock ∧ some k_ ≠ (.slice (some ad567) t554.length co28 : Value).ownBlock ∧ some k_ ≠ (v558 : Value).ownBlock) (.slice (some ⟨go15, 0, none⟩) y571.length co30) y571) := ⟨by (with_reducible repeat (first | apply Kd.R_alloc | apply Kd.R_drewN | apply Kd.R_drew)); exact Kd.R_mono (Kd.R_far (p := ⟨gb579, 2, none⟩) (Kd.R_far (p := ⟨gb579, 1, none⟩) (Kd.R_far (p := ⟨gb579, 0, none⟩) (Kd.R_types HO_8.out BK579.out (by decide)) (fun _ hk => hk.2) (.slice A578_0 ((rd_T40 t547 x13_1).f0).length c578_0)) (fun _ hk => hk.2) (.slice A578_1 ((rd_T40 t547 x13_1).f1).length c578_1)) (fun _ hk => hk.2) (.slice A578_2 ((rd_T40 t547 x13_1).f2).length c578_2)) (fun _ hk => ⟨hk.1.1, ⟨hk.1.2.1, hk.1.2.2⟩⟩)⟩
             rw [← hW_] at n3_
             have n4_ : Aside0 (Kd.N k40 40 (((w48.setCell ⟨gb579, 0, none⟩ (.slice A578_0 ((rd_T40 t547 x13_1).f0).length c578_0)).setCell ⟨gb579, 1, none⟩ (.slice A578_1 ((rd_T40 t547 x13_1).f1).length c578_1)).setCell ⟨gb579, 2, none⟩ (.slice A578_2 ((rd_T40 t547 x13_1).f2).length c578_2)) w.heap.size (fun k_ => some k_ ≠ (.slice Ao23 t550.length co23 : Value).ownBlock ∧ some k_ ≠ (.slice (some ad567) t554.length co28 : Value).ownBlock ∧ some k_ ≠ (v558 : Value).ownBlock ∧ some k_ ≠ (.slice (some ⟨go15, 0, none⟩) y571.length co30 : Value).ownBlock ∧ k_ ≠ gb553 ∧ k_ ≠ gb579) (.slice (some ad578) t547.length co20) t547) := ⟨by (with_reducible repeat (first | apply Kd.N_alloc | apply Kd.N_drewN | apply Kd.N_drew)); exact Kd.N_mono (Kd.N_far (p := ⟨gb579, 2, none⟩) (Kd.N_far (p := ⟨gb579, 1, none⟩) (Kd.N_far (p := ⟨gb579, 0, none⟩) (Kd.N_mono HO_554002.out (fun k_ hk => (⟨hk, hk.2⟩ : _ ∧ k_ ≠ gb579))) (fun _ hk => hk.2) (.slice A578_0 ((rd_T40 t547 x13_1).f0).length c578_0)) (fun _ hk => hk.2) (.slice A578_1 ((rd_T40 t547 x13_1).f1).length c578_1)) (fun _ hk => hk.2) (.slice A578_2 ((rd_T40 t547 x13_1).f2).length c578_2)) (fun _ hk => ⟨hk.1.1.1, ⟨hk.1.1.2.1, ⟨hk.1.1.2.2.1, ⟨hk.1.1.2.2.2.1, ⟨hk.1.1.2.2.2.2, hk.1.2⟩⟩⟩⟩⟩)⟩
             rw [← hW_] at n4_
             have n5_ : Aside0 (Kd.V (Kd.int .i64) 3 (((w48.setCell ⟨gb579, 0, none⟩ (.slice A578_0 ((rd_T40 t547 x13_1).f0).length c578_0)).setCell ⟨gb579, 1, none⟩ (.slice A578_1 ((rd_T40 t547 x13_1).f1).length c578_1)).setCell ⟨gb579, 2, none⟩ (.slice A578_2 ((rd_T40 t547 x13_1).f2).length c578_2)) w.heap.size (fun k_ => some k_ ≠ (.slice Ao23 t550.length co23 : Value).ownBlock ∧ some k_ ≠ (.slice (some ad567) t554.length co28 : Value).ownBlock ∧ some k_ ≠ (v558 : Value).ownBlock ∧ some k_ ≠ (.slice (some ⟨go15, 0, none⟩) y571.length co30 : Value).ownBlock ∧ some k_ ≠ (.slice (some ad578) t547.length co20 : Value).ownBlock ∧ k_ ≠ gb553 ∧ k_ ≠ gb579) (.slice A578_0 ((rd_T40 t547 x13_1).f0).length c578_0) ((rd_T40 t547 x13_1).f0)) := ⟨by (with_reducible repeat (first | apply Kd.V_alloc | apply Kd.V_drewN | apply Kd.V_drew)); exact Kd.V_mono (Kd.V_far (p := ⟨gb579, 2, none⟩) (Kd.V_far (p := ⟨gb579, 1, none⟩) (Kd.V_far (p := ⟨gb579, 0, none⟩) (Kd.V_mono HL578_0.out (fun k_ hk => (⟨hk, hk.2⟩ : _ ∧ k_ ≠ gb579))) (fun _ hk => hk.2) (.slice A578_0 ((rd_T40 t547 x13_1).f0).length c578_0)) (fun _ hk => hk.2) (.slice A578_1 ((rd_T40 t547 x13_1).f1).length c578_1)) (fun _ hk => hk.2) (.slice A578_2 ((rd_T40 t547 x13_1).f2).length c578_2)) (fun _ hk => ⟨hk.1.1.1.1, ⟨hk.1.1.1.2.1, ⟨hk.1.1.1.2.2.1, ⟨hk.1.1.1.2.2.2.1, ⟨hk.1.1.2, ⟨hk.1.1.1.2.2.2.2, hk.1.2⟩⟩⟩⟩⟩⟩)⟩
             rw [← hW_] at n5_
             have n6_ : Aside0 (Kd.V (Kd.int .i64) 3 (((w48.setCell ⟨gb579, 0, none⟩ (.slice A578_0 ((rd_T40 t547 x13_1).f0).length c578_0)).setCell ⟨gb579, 1, none⟩ (.slice A578_1 ((rd_T40 t547 x13_1).f1).length c578_1)).setCell ⟨gb579, 2, none⟩ (.slice A578_2 ((rd_T40 t547 x13_1).f2).length c578_2)) w.heap.size (fun k_ => some k_ ≠ (.slice Ao23 t550.length co23 : Value).ownBlock ∧ some k_ ≠ (.slice (some ad567) t554.length co28 : Value).ownBlock ∧ some k_ ≠ (v558 : Value).ownBlock ∧ some k_ ≠ (.slice (some ⟨go15, 0, none⟩) y571.length co30 : Value).ownBlock ∧ some k_ ≠ (.slice (some ad578) t547.length co20 : Value).ownBlock ∧ k_ ≠ gb553 ∧ k_ ≠ gb579) (.slice A578_1 ((rd_T40 t547 x13_1).f1).length c578_1) ((rd_T40 t547 x13_1).f1)) := ⟨by (with_reducible repeat (first | apply Kd.V_alloc | apply Kd.V_drewN | apply Kd.V_drew)); exact Kd.V_mono (Kd.V_far (p := ⟨gb579, 2, none⟩) (Kd.V_far (p := ⟨gb579, 1, none⟩) (Kd.V_far (p := ⟨gb579, 0, none⟩) (Kd.V_mono HL578_1.out (fun k_ hk => (⟨hk, hk.2⟩ : _ ∧ k_ ≠ gb579))) (fun _ hk => hk.2) (.slice A578_0 ((rd_T40 t547 x13_1).f0).length c578_0)) (fun _ hk => hk.2) (.slice A578_1 ((rd_T40 t547 x13_1).f1).length c578_1)) (fun _ hk => hk.2) (.slice A578_2 ((rd_T40 t547 x13_1).f2).length c578_2)) (fun _ hk => ⟨hk.1.1.1.1, ⟨hk.1.1.1.2.1, ⟨hk.1.1.1.2.2.1, ⟨hk.1.1.1.2.2.2.1, ⟨hk.1.1.2, ⟨hk.1.1.1.2.2.2.2, hk.1.2⟩⟩⟩⟩⟩⟩)⟩
             rw [← hW_] at n6_
             have n7_ : Aside0 (Kd.V (Kd.int .i64) 3 (((w48.setCell ⟨gb579, 0, none⟩ (.slice A578_0 ((rd_T40 t547 x13_1).f0).length c578_0)).setCell ⟨gb579, 1, none⟩ (.slice A578_1 ((rd_T40 t547 x13_1).f1).length c578_1)).setCell ⟨gb579, 2, none⟩ (.slice A578_2 ((rd_T40 t547 x13_1).f2).length c578_2)) w.heap.size (fun k_ => some k_ ≠ (.slice Ao23 t550.length co23 : Value).ownBlock ∧ some k_ ≠ (.slice (some ad567) t554.length co28 : Value).ownBlock ∧ some k_ ≠ (v558 : Value).ownBlock ∧ some k_ ≠ (.slice (some ⟨go15, 0, none⟩) y571.length co30 : Value).ownBlock ∧ some k_ ≠ (.slice (some ad578) t547.length co20 : Value).ownBlock ∧ k_ ≠ gb553 ∧ k_ ≠ gb579) (.slice A578_2 ((rd_T40 t547 x13_1).f2).length c578_2) ((rd_T40 t547 x13_1).f2)) := ⟨by (with_reducible repeat (first | apply Kd.V_alloc | apply Kd.V_drewN | apply Kd.V_drew)); exact Kd.V_mono (Kd.V_far (p := ⟨gb579, 2, none⟩) (Kd.V_far (p := ⟨gb579, 1, none⟩) (Kd.V_far (p := ⟨gb579, 0, none⟩) (Kd.V_mono HL578_2.out (fun k_ hk => (⟨hk, hk.2⟩ : _ ∧ k_ ≠ gb579))) (fun _ hk => hk.2) (.slice A578_0 ((rd_T40 t547 x13_1).f0).length c578_0)) (fun _ hk => hk.2) (.slice A578_1 ((rd_T40 t547 x13_1).f1).length c578_1)) (fun _ hk => hk.2) (.slice A578_2 ((rd_T40 t547 x13_1).f2).length c578_2)) (fun _ hk => ⟨hk.1.1.1.1, ⟨hk.1.1.1.2.1, ⟨hk.1.1.1.2.2.1, ⟨hk.1.1.1.2.2.2.1, ⟨hk.1.1.2, ⟨hk.1.1.1.2.2.2.2, hk.1.2⟩⟩⟩⟩⟩⟩)⟩
             rw [← hW_] at n7_
             replace BK553 := bW hW_ BK553
             replace BK579 := bX hW_ 40 #[.slice A578_0 ((rd_T40 t547 x13_1).f0).length c578_0, .slice A578_1 ((rd_T40 t547 x13_1).f1).length c578_1, .slice A578_2 ((rd_T40 t547 x13_1).f2).length c578_2] BK579
             (try clear HO_4)
             (try clear HO_5)
             (try clear HO_6)
             (try clear HO_8)
             (try clear HO_554002)
             (try clear HL578_0)
             (try clear HL578_1)
             (try clear HL578_2)
             have HO_4 := n0_
             clear n0_
             have HO_5 := n1_
             clear n1_
             have HO_6 := n2_
             clear n2_
             have HO_8 := n3_
             clear n3_
             have HO_554002 := n4_
             clear n4_
             have HL578_0 := n5_
             clear n5_
             have HL578_1 := n6_
             clear n6_
             have HL578_2 := n7_
             clear n7_
             replace HB := zW hW_ HB
             rw [← hW_]
             clear hW_
             replace HO_4 := Aside0.mk (Kd.R_drew HO_4.out)
             replace HO_5 := Aside0.mk (Kd.R_drew HO_5.out)
             replace HO_6 := Aside0.mk (Kd.R_drew HO_6.out)
             replace HO_8 := Aside0.mk (Kd.R_drew HO_8.out)
             replace HO_554002 := Aside0.mk (Kd.N_drew HO_554002.out)
             replace HL578_0 := Aside0.mk (Kd.V_drew HL578_0.out)
             replace HL578_1 := Aside0.mk (Kd.V_drew HL578_1.out)
             replace HL578_2 := Aside0.mk (Kd.V_drew HL578_2.out)
             replace BK553 := Aside0.mk (blk_drew BK553.out)
             replace BK579 := Aside0.mk (blk_drew BK579.out)
             replace HB := Aside0.mk (below_drew1 HB.out)
             refine start_ (n := 18) (S := fun w' => True) (ds := []) #[false, false, false, false, false, false, false, false, false, false, false, false, false, false, false, false, false, false] (by kernel_rfl) rfl rfl trivial (fun hHeld => ?_); refine with_tabW laws_FnQaps.tab15 laws_FnQaps.bits15 (fun HT_ HW_ => ?_)
             generalize w51.drew = w52 at HO_4 HO_5 HO_6 HO_8 HO_554002 HL578_0 HL578_1 HL578_2 BK553 BK579 HB hHeld ⊢
             refine pI 0 (some 70) HT_.out ?_
             refine pI 1 (some 71) HT_.out ?_
             refine pK 2 (some 72) HT_.out ?_
             refine pK 3 (some 73) HT_.out ?_
             refine pK 4 (some 74) HT_.out ?_
             refine pK 5 (some 75) HT_.out ?_
             refine pK 6 (some 76) HT_.out ?_
             refine pK 7 (some 77) HT_.out ?_
             refine pK 8 (some 78) HT_.out ?_
             refine pK 9 (some 79) HT_.out ?_
             refine pK 10 (some 80) HT_.out ?_
             refine pK 11 (some 81) HT_.out ?_
             refine pK 12 (some 82) HT_.out ?_
             refine pK 13 (some 83) HT_.out ?_
             refine pK 14 (some 84) HT_.out ?_
             refine pK 15 (some 85) HT_.out ?_
             refine pI 16 (some 86) HT_.out ?_
             refine pI 17 (some 12) HT_.out ?_
             refine done_ (done_of HT_.out (by kernel_rfl)) ?_
             try go_wp2
             (try simp only [← hl8_1])
             go_roundg k1
             case measure => have := HK1.out; omega
             case rel => exact ⟨(false), (wrap64 (x13_1 + 1)), rS, rS, H', ⟨by have := HK1.out; omega⟩, ⟨by (try simp only [hl8_1]); (with_reducible repeat (first | apply Kd.R_alloc | apply Kd.R_drewN | apply Kd.R_drew)); exact HO_4.out⟩, ⟨by (try simp only [hl8_1]); (with_reducible repeat (first | apply Kd.R_alloc | apply Kd.R_drewN | apply Kd.R_drew)); exact HO_5.out⟩, ⟨by (try simp only [hl8_1]); (with_reducible repeat (first | apply Kd.R_alloc | apply Kd.R_drewN | apply Kd.R_drew)); exact HO_6.out⟩, ⟨by (try simp only [hl8_1]); (with_reducible repeat (first | apply Kd.R_alloc | apply Kd.R_drewN | apply Kd.R_drew)); exact HO_8.out⟩, ⟨by (try simp only [hl8_1]); (with_reducible repeat (first | apply Kd.N_alloc | apply Kd.N_drewN | apply Kd.N_drew)); exact Kd.N_mono HO_554002.out (fun _ hk => ⟨hk.1, ⟨hk.2.1, ⟨hk.2.2.1, ⟨hk.2.2.2.1, hk.2.2.2.2.1⟩⟩⟩⟩)⟩, ⟨by (try simp only [hl8_1]); (with_reducible repeat (first | refine blk_drewN ?_ _ | refine blk_drew ?_ | refine blk_alloc ?_ _)); exact BK553.out⟩, ⟨bZ HB⟩⟩
           ·rw [if_neg c35] at H
            exact absurd H (by simp)
          ·rw [if_neg c34] at H
           have c34b0 := decide_eq_false c34
           clear c34
           by_cases c53 : t560 = true
           ·subst c53
            rw [if_pos rfl] at H
            by_cases c54 : (t557.length : Int) < (t547.length : Int)
            ·rw [if_pos c54] at H
             have c54b0 := decide_eq_true c54
             have c54b1 : decide (t557.length < t547.length) = true := decide_eq_true (Int.ofNat_lt.mp c54)
             clear c54
             by_cases c55 : 2 < (t554.length : Int)
             ·rw [if_pos c55] at H
              have c55b0 := decide_eq_true c55
              have c55b1 : decide (2 < t554.length) = true := decide_eq_true (by omega)
              clear c55
              replace H := Option.bind_eq_some_iff.mp H
              obtain ⟨t577, A560, H⟩ := H
              have A56 := Aside0.mk A560
              clear A560
              by_cases c57 : t577 = true
              ·subst c57
               rw [if_pos rfl] at H
               obtain rfl := Option.some.inj H
               obtain ⟨hcz58_0, hcz58_1, hcz58_2, hfz58_0, hfz58_1, hfz58_2⟩ := bK3 (w := wr) BK553
               try go_wp2
               replace HO_4 := Aside0.mk (Kd.R_drew HO_4.out)
               replace HO_5 := Aside0.mk (Kd.R_drew HO_5.out)
               replace HO_6 := Aside0.mk (Kd.R_drew HO_6.out)
               replace HO_8 := Aside0.mk (Kd.R_drew HO_8.out)
               replace HO_554002 := Aside0.mk (Kd.N_drew HO_554002.out)
               replace BK553 := Aside0.mk (blk_drew BK553.out)
               replace HB := Aside0.mk (below_drew1 HB.out)
               obtain ⟨Ao60, co60, eo60⟩ := Kd.R_slice HO_6.out
               (first | subst eo60 | (injection eo60 with f1_ f2_ f3_; have f4_ := f1_.symm; have f5_ := f3_.symm; clear f1_ f2_ f3_; subst f4_; subst f5_))
               have p576 : 0 ≤ (2 : Int) := (by omega)
               have q576 : 2 < (t554.length : Int) := of_decide_eq_true (by first | (with_reducible assumption) | assumption)
               obtain ⟨ad576, e576, hx576_0⟩ := Kd.at_int (Kd.R_reads' HO_5.out).2.2 2 p576 q576
               obtain rfl : ad567 = ad576 := (by injection e576)
               (try simp only [show (2 : Int).toNat = 2 from rfl, Nat.reduceMul, Nat.reduceEqDiff, Go.Addr.add, ↓reduceIte] at hx576_0)
               have qi576 : (2 < t554.length) = True := eq_true (by omega)
               (try rw [show ((2 : Int)).toNat = 2 from rfl] at hx576_0)
               replace p576 := eq_true p576
               replace q576 := eq_true q576
               refine start_ (n := 23) (S := fun w' => w'.cell? ⟨gb553, 0, none⟩ = some (.int .i64 t545) ∧ w'.cell? ⟨gb553, 1, none⟩ = some (.int .i64 t546) ∧ w'.cell? ⟨gb553, 2, none⟩ = some (.slice Ao20 t547.length co20) ∧ w'.cell? ⟨ad567.block, ad567.off + 2, none⟩ = some (.int .i64 (rd t554 2))) (ds := []) #[false, false, false, false, false, false, false, false, false, false, false, false, false, false, false, false, false, false, false, false, false, false, false] (by kernel_rfl) rfl rfl ⟨bc BK553 0, bc BK553 1, bc BK553 2, hx576_0⟩ (fun hHeld => ?_); refine with_tabW laws_FnQaps.tab16 laws_FnQaps.bits16 (fun HT_ HW_ => ?_)
               generalize wr.drew = w59 at HO_4 HO_5 HO_6 HO_8 HO_554002 BK553 HB hx576_0 hHeld ⊢
               refine pI 0 (some 87) HT_.out ?_
               refine pI 1 (some 88) HT_.out ?_
               refine pI 2 (some 89) HT_.out ?_
               refine pI 3 (some 90) HT_.out ?_
               refine pI 4 (some 91) HT_.out ?_
               refine tI4 5 (some 92) HT_.out HW_.out hHeld ?_
               refine pI 6 (some 93) HT_.out ?_
               refine pI 7 (some 94) HT_.out ?_
               refine pI 8 (some 95) HT_.out ?_
               refine pI 9 (some 96) HT_.out ?_
               refine pI 11 (some 98) HT_.out ?_
               refine pI 12 (some 99) HT_.out ?_
               refine pI 13 (some 100) HT_.out ?_
               refine tI4 10 (some 97) HT_.out HW_.out hHeld ?_
               refine tI4 14 (some 101) HT_.out HW_.out hHeld ?_
               refine oI 15 (some 102) HT_.out (fun K hK => ?_)
               refine gO Try.func30 #[.agg #[.int .i64 t545, .int .i64 t546, .slice Ao20 t547.length co20], .slice Ao23 t550.length co23, .int .i64 (rd t554 2)] ?_
               with_reducible refine (impl_QapHolds.calls k1 t545 t546 _ _ t547 _ _ t550 (rd t554 2) true _ ?side1 ?side2 ?side3 ?side4 A56.out).mono ?_
               (case side1 => exact cP ((Kd.N_reads' HO_554002.out).2.2))
               (case side2 => exact (Kd.N_reads' HO_554002.out).2.1)
               (case side3 => exact cP ((Kd.R_reads' HO_4.out).2.2))
               (case side4 => exact (Kd.R_reads' HO_4.out).2.1)
               rintro e w61 ⟨rfl, hb⟩
               have HS3_ := (hb.cell (World.block_lt_of_cell? _ _ (hHeld.2.2.2))).trans (hHeld.2.2.2)
               refine ⟨_, rfl, ?_⟩
               replace HO_4 := Aside0.mk (Kd.R_below (rP HO_4) hb)
               replace HO_5 := Aside0.mk (Kd.R_below (rP HO_5) hb)
               replace HO_6 := Aside0.mk (Kd.R_below (rP HO_6) hb)
               replace HO_8 := Aside0.mk (Kd.R_below (rP HO_8) hb)
               replace HO_554002 := Aside0.mk (Kd.N_below (by (with_reducible repeat (first | apply Kd.N_alloc | apply Kd.N_drewN | apply Kd.N_drew)); exact HO_554002.out) hb)
               replace BK553 := bB BK553 hb
               replace HB := bS HB hb
               (try clear hb)
               refine hK.out _ _ ⟨bc BK553 0, bc BK553 1, bc BK553 2, HS3_⟩ (fun hHeld => ?_)
               clear hK K
               refine nO (some 102) ?_
               refine pI 16 (some 103) HT_.out ?_
               refine pI 17 (some 104) HT_.out ?_
               refine pI 18 (some 105) HT_.out ?_
               refine pI 19 (some 106) HT_.out ?_
               refine pI 20 (some 107) HT_.out ?_
               refine pI 21 (some 108) HT_.out ?_
               refine pI 22 (some 2) HT_.out ?_
               refine done_ (done_of HT_.out (by kernel_rfl)) ?_
               try go_wp2
               go_ret
               exact ⟨by first | rfl | (simp [errW_none, errW_some] <;> rfl) | (simp only [← hji10]; first | rfl | (simp [errW_none, errW_some] <;> rfl)) | (simp [*, errW_none, errW_some] <;> rfl), bZ HB⟩
              ·replace c57 := Bool.eq_false_iff.mpr c57
               subst c57
               rw [if_neg (show ¬ (false = true) by decide)] at H
               exact absurd (Option.some.inj H) (by rw [htrue.out]; exact Bool.false_ne_true)
             ·rw [if_neg c55] at H
              exact absurd H (by simp)
            ·rw [if_neg c54] at H
             have c54b0 := decide_eq_false c54
             have c54b1 : decide (t557.length < t547.length) = false := decide_eq_false (fun h => c54 (Int.ofNat_lt.mpr h))
             clear c54
             exact absurd (Option.some.inj H) (by rw [htrue.out]; exact Bool.false_ne_true)
           ·replace c53 := Bool.eq_false_iff.mpr c53
            subst c53
            rw [if_neg (show ¬ (false = true) by decide)] at H
            exact absurd (Option.some.inj H) (by rw [htrue.out]; exact Bool.false_ne_true)
       ·rw [if_neg c13] at H
        exact absurd H (by simp)
      ·rw [if_neg c12] at H
       exact absurd H (by simp)
     ·rw [if_neg c11] at H
      exact absurd H (by simp)
   ·rw [if_neg c8] at H
    exact absurd H (by simp)
  ·rw [if_neg c7] at H
   exact absurd H (by simp)
def laws_FnQaps.Pure : Prop := ∀ (l0 : List Int), l0.length ≤ maxLen → l0.length * 1 ≤ 140737488351232 → (∀ x ∈ l0, (Lit.int .u8 x).wf = true) → ∃ k, laws_FnQaps.f k l0 = some true
theorem laws_FnQaps.walk (P : laws_FnQaps.Pure) (a0 : Option Addr) (len0 cap0 : Nat) (z0 : List Int) (w : World) (w0 : (a0 = none ∧ len0 = 0 ∧ cap0 = 0 ∧ z0 = []) ∨ ∃ x, a0 = some x ∧ len0 ≤ cap0 ∧ cap0 ≤ maxLen ∧ z0.length = cap0 ∧ (∀ i, i < z0.length → w.cell? (x.add i) = some (.int .u8 (z0.getD i 0))) ∧ ∀ n ∈ z0, (Lit.int .u8 n).wf = true) (y0 : len0 * 1 ≤ 140737488351232) :
  Calls Try.prog 5 #[.slice a0 len0 cap0] w fun e w' => e = .returned (.bool true) ∧ Below w.heap.size w w' := by
 obtain ⟨l0, rfl, hr0, hm0, hw0, hc0⟩ := ReadsInt.ofRowC w0
 obtain ⟨k, h⟩ := P l0 hm0 y0 hw0
 refine (laws_FnQaps.calls k _ _ l0 true w (Kd.C_of_reads (d := (0 : Int)) (h1 := fun _ => rfl) hr0) hc0 ⟨rfl⟩ h).mono ?_
 rintro e w' ⟨rfl, hd⟩
 exact ⟨rfl, hd⟩

def spec_ScInv.l0 : Nat → Int → Int → Int → Option (Int)
 | 0, _, _, _ => none
 | k + 1, x3, x4, x5 => if x5 > 0 then (if (Int.tmod x5 2) = 1 then ((spec_ScMul.f x3 x4).bind fun t708 => ((spec_ScMul.f x4 x4).bind fun t709 => (spec_ScInv.l0 k t708 t709 (wrap64 (Int.tdiv x5 2))))) else ((spec_ScMul.f x4 x4).bind fun t710 => (spec_ScInv.l0 k x3 t710 (wrap64 (Int.tdiv x5 2))))) else (some x3)
def spec_ScInv.f (k : Nat) (a0 : Int) : Option (Int) := (spec_ScOf.f a0).bind fun t707 => (spec_ScInv.l0 k 1 t707 1007)
theorem spec_ScInv.mono_l : ∀ k, (∀ y0 y1 y2, LeO (spec_ScInv.l0 k y0 y1 y2) (spec_ScInv.l0 (k + 1) y0 y1 y2))
 | 0 => fun _ _ _ r h => by simp [spec_ScInv.l0] at h
 | k + 1 => by
  have ih0 := spec_ScInv.mono_l k
  ·intro y0 y1 y2
   unfold spec_ScInv.l0
   with_reducible repeat' first | exact ih0 _ _ _ | exact LeO.refl _ | exact LeO.none _ | refine LeO.ite ?_ ?_ | refine LeO.bind ?_ (fun _ => ?_)
theorem spec_ScInv.mono : ∀ a0 k, LeO (spec_ScInv.f k a0) (spec_ScInv.f (k + 1) a0) := by
 intro a0 k
 have ih0 := spec_ScInv.mono_l k
 unfold spec_ScInv.f
 with_reducible repeat' first | exact ih0 _ _ _ | exact LeO.refl _ | exact LeO.none _ | refine LeO.ite ?_ ?_ | refine LeO.bind ?_ (fun _ => ?_)

def spec_PolyDivide.T17 : Bool × List (List Nat × List Nat) := (true, [([], []), ([], []), ([], []), ([1, 2], [1, 2]), ([], []), ([], []), ([], []), ([5, 6], [5, 6]), ([4, 7], [4, 7]), ([8], [8]), ([], []), ([], []), ([], []), ([11, 12], [11, 12]), ([13], [13]), ([10, 14], [10, 14]), ([15, 15], [15]), ([9, 16, 16], [9, 16]), ([0, 3, 0, 1, 2, 3, 4, 5, 6, 7, 8, 9, 10, 11, 12, 13, 14, 15, 16, 17], [0, 3]), ([18, 17, 17, 0, 1, 2, 3, 4, 5, 6, 7, 8, 9, 10, 11, 12, 13, 14, 15, 16, 17], [17, 18])])
def spec_PolyDivide.B17 : List Nat := [0, 0, 0, 6, 0, 0, 0, 96, 240, 496, 0, 0, 0, 6144, 14336, 31744, 64512, 131056, 262143, 524287]
theorem spec_PolyDivide.tab17 : rtab .any (opsOf Try.f37 17) = spec_PolyDivide.T17 := by kernel_rfl
theorem spec_PolyDivide.bits17 : waitsOk spec_PolyDivide.T17.2 spec_PolyDivide.B17 = true := by kernel_rfl
def spec_PolyMul.T10 : Bool × List (List Nat × List Nat) := (true, [([], []), ([], []), ([], []), ([1, 2], [1, 2]), ([], []), ([], []), ([], []), ([5, 6], [5, 6]), ([4, 7], [4, 7]), ([8], [8]), ([], []), ([], []), ([10, 11], [10, 11]), ([12], [12]), ([], []), ([], []), ([14, 15], [14, 15]), ([16], [16]), ([13, 17], [13, 17]), ([9, 18, 18], [9, 18]), ([0, 3, 0, 1, 2, 3, 4, 5, 6, 7, 8, 9, 10, 11, 12, 13, 14, 15, 16, 17, 18, 19], [0, 3]), ([20, 19, 19, 0, 1, 2, 3, 4, 5, 6, 7, 8, 9, 10, 11, 12, 13, 14, 15, 16, 17, 18, 19], [19, 20])])
def spec_PolyMul.B10 : List Nat := [0, 0, 0, 6, 0, 0, 0, 96, 240, 496, 0, 0, 3072, 7168, 0, 0, 49152, 114688, 261120, 524272, 1048575, 2097151]
theorem spec_PolyMul.tab10 : rtab .any (opsOf Try.f33 10) = spec_PolyMul.T10 := by kernel_rfl
theorem spec_PolyMul.bits10 : waitsOk spec_PolyMul.T10.2 spec_PolyMul.B10 = true := by kernel_rfl



def spec_PolyThrough.T15 : Bool × List (List Nat × List Nat) := (true, [([], []), ([], []), ([], []), ([], []), ([2, 3], [2, 3]), ([4], [4]), ([], []), ([6], [6]), ([5, 7, 7], [5, 7]), ([1, 8, 8], [1, 8]), ([0, 9, 9], [0, 9]), ([10, 10, 0, 1, 2, 3, 4, 5, 6, 7, 8, 9, 10], [0, 10])])
def spec_PolyThrough.B15 : List Nat := [0, 0, 0, 0, 12, 28, 0, 64, 252, 510, 1023, 2047]
theorem spec_PolyThrough.tab15 : rtab .any (opsOf Try.f51 15) = spec_PolyThrough.T15 := by kernel_rfl
theorem spec_PolyThrough.bits15 : waitsOk spec_PolyThrough.T15.2 spec_PolyThrough.B15 = true := by kernel_rfl

def laws_eqIntS.l0 : Nat → List Int → List Int → Int → Option (Bool)
 | 0, _, _, _ => none
 | k + 1, x0, x1, x5 => if x5 < (x0.length : Int) then (if 0 ≤ x5 then (if x5 < (x1.length : Int) then (if (rd x0 x5) = (rd x1 x5) then (laws_eqIntS.l0 k x0 x1 (wrap64 (x5 + 1))) else (some false)) else (none)) else (none)) else (some true)
def laws_eqIntS.f (k : Nat) (l0 : List Int) (l1 : List Int) : Option (Bool) := if (l0.length : Int) = (l1.length : Int) then (laws_eqIntS.l0 k l0 l1 0) else (some false)



end Go.Proofs.Ytcnejiflpioaiaa.Pf
end
section
set_option linter.unusedVariables false
set_option linter.unusedSimpArgs false
namespace Go.Proofs.Ytcnejiflpioaiaa.Ints
open Go.RowKit Go.Proofs.Ytcnejiflpioaiaa.Pf Go.Proofs.YtcnejiflpioaiaaW.PrintWords
theorem wrap_in {i : Int} (h0 : -9223372036854775808 ≤ i) (h : i ≤ 9223372036854775807) : wrap64 i = i := by
  unfold wrap64; omega
theorem eqIntS_l0 (xs : List Int) (hn : xs.length ≤ 9223372036854775807) (d : Nat) : ∀ (i : Int) (k : Nat), 0 ≤ i → (xs.length : Int) - i = d → d < k → laws_eqIntS.l0 k xs xs i = some true := by
  induction d with
  | zero =>
    intro i k h0 hd hk
    obtain ⟨k, rfl⟩ : ∃ m, k = m + 1 := ⟨k - 1, by omega⟩
    simp only [laws_eqIntS.l0]
    rw [if_neg (by omega)]
  | succ d ih =>
    intro i k h0 hd hk
    obtain ⟨k, rfl⟩ : ∃ m, k = m + 1 := ⟨k - 1, by omega⟩
    simp only [laws_eqIntS.l0]
    rw [if_pos (by omega), if_pos h0, if_pos (by omega), wrap_in (by omega) (by omega), if_pos trivial]
    exact ih (i + 1) k (by omega) (by omega) (by omega)
theorem eqIntS_same (xs : List Int) (hn : xs.length ≤ 9223372036854775807) (k : Nat) (hk : xs.length < k) : laws_eqIntS.f k xs xs = some true := by
  unfold laws_eqIntS.f
  rw [if_pos rfl]
  exact eqIntS_l0 xs hn xs.length 0 k (by omega) (by omega) hk
end Go.Proofs.Ytcnejiflpioaiaa.Ints
end
section
set_option linter.unusedVariables false
set_option linter.unusedSimpArgs false
namespace Go.Proofs.Ytcnejiflpioaiaa.Poly
open Go.RowKit Go.Proofs.Ytcnejiflpioaiaa.Pf Go.Proofs.YtcnejiflpioaiaaW.PrintWords Go.Proofs.Ytcnejiflpioaiaa.Ints
theorem tmod_two (n : Int) (m : Int) (hm : 0 < m) : Int.tmod n m = n % m ∨ (Int.tmod n m = n % m - m ∧ n % m ≠ 0) := by
  rw [Int.tmod_eq_emod]
  split
  · left; omega
  · rename_i h
    right
    refine ⟨by omega, fun e => h (Or.inr (Int.dvd_of_emod_eq_zero e))⟩
theorem Ev.one {α : Type} {g : Nat → Option α} {r : α} (h : ∀ k, g (k + 1) = some r) : Ev g r :=
  ⟨1, fun k hk => by obtain ⟨k, rfl⟩ : ∃ m, k = m + 1 := ⟨k - 1, by omega⟩; exact h k⟩
theorem mul_bound (a b : Int) : 0 ≤ (a % 1009) * (b % 1009) ∧ (a % 1009) * (b % 1009) ≤ 1016064 := by
  have h1 : 0 ≤ a % 1009 := Int.emod_nonneg _ (by decide)
  have h2 : 0 ≤ b % 1009 := Int.emod_nonneg _ (by decide)
  have h3 : a % 1009 ≤ 1008 := by omega
  have h4 : b % 1009 ≤ 1008 := by omega
  refine ⟨Int.mul_nonneg h1 h2, ?_⟩
  have := Int.mul_le_mul h3 h4 h2 (by decide)
  omega
theorem rd_nat (xs : List Int) (n : Nat) (h : n < xs.length) : rd xs (n : Int) = xs[n] := by
  unfold rd
  rw [Int.toNat_natCast, List.getD_eq_getElem?_getD, List.getElem?_eq_getElem h, Option.getD_some]
def pat (xs : List Int) (x : Int) : Int := xs.foldr (fun c acc => (acc * x + c) % 1009) 0
def cut (xs : List Int) : List Int := (xs.reverse.dropWhile (fun c => decide (c = 0))).reverse
def trim (xs : List Int) : List Int := cut (xs.map (· % 1009))
theorem cut_zero (xs : List Int) : cut (xs ++ [0]) = cut xs := by simp [cut]
theorem cut_other (xs : List Int) (c : Int) (h : c ≠ 0) : cut (xs ++ [c]) = xs ++ [c] := by simp [cut, h]
theorem cut_length (xs : List Int) : (cut xs).length ≤ xs.length := by
  unfold cut
  rw [List.length_reverse]
  have := (List.dropWhile_suffix (fun c : Int => decide (c = 0)) (l := xs.reverse)).length_le
  simpa using this
theorem trim_length (xs : List Int) : (trim xs).length ≤ xs.length := by
  have := cut_length (xs.map (· % 1009))
  simpa [trim] using this
theorem impl_ScOf_eq (n : Int) : impl_ScOf.f n = some (n % 1009) := by
  unfold impl_ScOf.f impl_remainder.f
  rw [if_neg (by decide)]
  rcases tmod_two n 1009 (by decide) with h | ⟨h, h2⟩
  · rw [h, if_neg (by omega)]; rfl
  · rw [h, if_pos (by omega), wrap_in (by omega) (by omega)]
    simp
theorem impl_ScAdd_eq (a b : Int) : impl_ScAdd.f a b = some ((a + b) % 1009) := by
  simp only [impl_ScAdd.f, impl_ScOf_eq, Option.bind_some]
  rw [wrap_in (by omega) (by omega)]
  simp only [Option.some.injEq]
  omega
theorem impl_ScMul_eq (a b : Int) : impl_ScMul.f a b = some ((a * b) % 1009) := by
  have h := mul_bound a b
  simp only [impl_ScMul.f, impl_ScOf_eq, Option.bind_some]
  rw [wrap_in (by omega) (by omega), ← Int.mul_emod]
theorem impl_PolyAt_l0 (xs : List Int) (x : Int) (hl : xs.length ≤ 9223372036854775807) : ∀ n, n ≤ xs.length → Ev (fun k => impl_PolyAt.l0 k xs x (pat (xs.drop n) x) ((n : Int) - 1)) (pat xs x)
  | 0, _ => Ev.one fun k => by
    simp only [impl_PolyAt.l0]
    rw [if_neg (by omega)]
    simp
  | n + 1, hn => by
    refine Ev.step (fun k => ?_) (impl_PolyAt_l0 xs x hl n (by omega))
    have h1 : n < xs.length := by omega
    simp only [impl_PolyAt.l0]
    rw [show ((n + 1 : Nat) : Int) - 1 = (n : Int) by omega, if_pos (by omega), impl_ScMul_eq, Option.bind_some, if_pos (by omega), if_pos (by omega), impl_ScAdd_eq, Option.bind_some, wrap_in (by omega) (by omega), rd_nat xs n h1]
    congr 1
    rw [List.drop_eq_getElem_cons h1]
    simp only [pat, List.foldr_cons]
    omega
theorem impl_PolyAt_ev (xs : List Int) (x : Int) (hl : xs.length ≤ 9223372036854775807) : Ev (fun k => impl_PolyAt.f k xs x) (pat xs x) := by
  have h := impl_PolyAt_l0 xs x hl xs.length (Nat.le_refl _)
  rw [List.drop_length] at h
  simp only [impl_PolyAt.f]
  rw [wrap_in (by omega) (by omega)]
  exact h
theorem impl_PolyTrim_l1 : ∀ (n : Nat) (xs : List Int), xs.length = n → n ≤ 9223372036854775807 → Ev (fun k => impl_PolyTrim.l1 k xs) (cut xs)
  | 0, xs, h, _ => Ev.one fun k => by
    obtain rfl : xs = [] := List.eq_nil_of_length_eq_zero h
    simp only [impl_PolyTrim.l1]
    rw [if_neg (by simp)]
    rfl
  | n + 1, xs, h, hn => by
    obtain ⟨ys, c, rfl⟩ : ∃ ys c, xs = ys ++ [c] := ⟨xs.dropLast, xs.getLast (by intro e; simp [e] at h), (List.dropLast_concat_getLast _).symm⟩
    rw [List.length_append, List.length_singleton] at h
    have hy : ys.length = n := by omega
    have hr : rd (ys ++ [c]) (n : Int) = c := by rw [rd_nat _ n (by simp <;> omega)]; simp [← hy]
    have hw : wrap64 ((((ys ++ [c]).length : Nat) : Int) - 1) = (n : Int) := by rw [wrap_in (by simp <;> omega) (by simp <;> omega)]; simp; omega
    by_cases hc : c = 0
    · subst hc
      rw [cut_zero]
      refine Ev.step (fun k => ?_) (impl_PolyTrim_l1 n ys hy (by omega))
      simp only [impl_PolyTrim.l1]
      rw [hw, if_pos (by simp <;> omega), if_pos (by omega), if_pos (by simp <;> omega), hr, if_pos rfl, if_pos (by simp <;> omega), Int.toNat_natCast, ← hy, List.take_left]
    · rw [cut_other ys c hc]
      refine Ev.one fun k => ?_
      simp only [impl_PolyTrim.l1]
      rw [hw, if_pos (by simp <;> omega), if_pos (by omega), if_pos (by simp <;> omega), hr, if_neg hc]
theorem impl_PolyTrim_l0 (xs : List Int) (hl : xs.length ≤ 17592186044416) (d : Nat) : ∀ i, i + d = xs.length → Ev (fun k => impl_PolyTrim.l0 k ((xs.take i).map (· % 1009)) xs (xs.length : Int) (i : Int)) (trim xs) := by
  induction d with
  | zero =>
    intro i hi
    refine Ev.step (fun k => ?_) (impl_PolyTrim_l1 _ (xs.map (· % 1009)) rfl (by simp <;> omega))
    simp only [impl_PolyTrim.l0]
    rw [if_neg (by omega), List.take_of_length_le (by omega)]
  | succ d ih =>
    intro i hi
    have h1 : i < xs.length := by omega
    refine Ev.step (fun k => ?_) (ih (i + 1) (by omega))
    simp only [impl_PolyTrim.l0]
    rw [if_pos (by omega), if_pos (by omega), if_pos (by omega), impl_ScOf_eq, Option.bind_some, if_pos (by simp <;> omega), wrap_in (by omega) (by omega), rd_nat xs i h1, List.take_succ_eq_append_getElem h1, List.map_append]
    rfl
theorem impl_PolyTrim_ev (xs : List Int) (hl : xs.length ≤ 17592186044416) : Ev (fun k => impl_PolyTrim.f k xs) (trim xs) := impl_PolyTrim_l0 xs hl xs.length 0 (by omega)
theorem spec_ScOf_eq (n : Int) : spec_ScOf.f n = some (n % 1009) := by
  unfold spec_ScOf.f
  rcases tmod_two n 1009 (by decide) with h | ⟨h, h2⟩
  · rw [h, if_neg (by omega)]
  · rw [h, if_pos (by omega), wrap_in (by omega) (by omega)]
    simp
theorem spec_ScAdd_eq (a b : Int) : spec_ScAdd.f a b = some ((a + b) % 1009) := by
  simp only [spec_ScAdd.f, spec_ScOf_eq, Option.bind_some]
  rw [wrap_in (by omega) (by omega)]
  simp only [Option.some.injEq]
  omega
theorem spec_ScMul_eq (a b : Int) : spec_ScMul.f a b = some ((a * b) % 1009) := by
  have h := mul_bound a b
  simp only [spec_ScMul.f, spec_ScOf_eq, Option.bind_some]
  rw [wrap_in (by omega) (by omega), ← Int.mul_emod]
def at_ (xs : List Int) (i : Nat) : Int := xs.getD i 0
theorem at_lt {xs : List Int} {i : Nat} (h : i < xs.length) : at_ xs i = xs[i] := by simp [at_, h]
theorem at_ge {xs : List Int} {i : Nat} (h : xs.length ≤ i) : at_ xs i = 0 := by simp [at_, h]
theorem rd_at (xs : List Int) (i : Nat) : rd xs (i : Int) = at_ xs i := by simp [rd, at_]
theorem ext_at {xs ys : List Int} (hl : xs.length = ys.length) (h : ∀ i, i < xs.length → at_ xs i = at_ ys i) : xs = ys := by
  apply List.ext_getElem hl
  intro i h1 h2
  have := h i h1
  rwa [at_lt h1, at_lt h2] at this
theorem at_set (xs : List Int) (i j : Nat) (x : Int) (h : i < xs.length) : at_ (xs.set i x) j = if j = i then x else at_ xs j := by
  unfold at_
  rw [List.getD_eq_getElem?_getD, List.getD_eq_getElem?_getD, List.getElem?_set]
  by_cases hj : i = j
  · subst hj; simp [h]
  · simp [hj, show ¬ j = i from fun e => hj e.symm]
def tab (n : Nat) (f : Nat → Int) : List Int := (List.range n).map f
theorem tab_length (n : Nat) (f : Nat → Int) : (tab n f).length = n := by simp [tab]
theorem tab_at (n : Nat) (f : Nat → Int) (i : Nat) (h : i < n) : at_ (tab n f) i = f i := by simp [at_, tab, h]
theorem eq_tab {xs : List Int} {n : Nat} {f : Nat → Int} (hl : xs.length = n) (h : ∀ i, i < n → at_ xs i = f i) : xs = tab n f :=
  ext_at (by rw [hl, tab_length]) (fun i hi => by rw [h i (by omega), tab_at n f i (by omega)])
theorem tab_congr {n : Nat} {f g : Nat → Int} (h : ∀ i, i < n → f i = g i) : tab n f = tab n g := eq_tab (tab_length _ _) (fun i hi => by rw [tab_at n f i hi, h i hi])
theorem tab_set (n : Nat) (f : Nat → Int) (i : Nat) (x : Int) (h : i < n) : (tab n f).set i x = tab n (fun j => if j = i then x else f j) :=
  eq_tab (by simp [tab_length]) (fun j hj => by rw [at_set _ _ _ _ (by rw [tab_length]; exact h), tab_at n f j hj])
theorem replicate_tab (n : Nat) : List.replicate n (0 : Int) = tab n (fun _ => 0) := eq_tab (by simp) (fun i hi => by simp [at_, hi])
def padd (xs ys : List Int) : List Int := trim (tab (max xs.length ys.length) (fun i => (at_ xs i + at_ ys i) % 1009))
theorem map_tab (n : Nat) (f : Nat → Int) (g : Int → Int) : (tab n f).map g = tab n (fun i => g (f i)) := by simp [tab, Function.comp_def]
theorem at_emod (xs : List Int) (i : Nat) : at_ (xs.map (· % 1009)) i = at_ xs i % 1009 := by
  by_cases h : i < xs.length
  · rw [at_lt (by simpa using h), at_lt h]; simp
  · rw [at_ge (by simp; omega), at_ge (by omega)]; rfl
theorem impl_PolyAdd_l1 (xs ys : List Int) (n : Nat) (hn : n = max xs.length ys.length) (hl : n ≤ 17592186044416) (d : Nat) : ∀ i, i + d = ys.length →
    Ev (fun k => impl_PolyAdd.l1 k (tab n (fun j => (at_ xs j + if j < i then at_ ys j else 0) % 1009)) ys (ys.length : Int) (i : Int)) (padd xs ys) := by
  induction d with
  | zero =>
    intro i hi
    obtain rfl : i = ys.length := by omega
    have e : tab n (fun j => (at_ xs j + if j < ys.length then at_ ys j else 0) % 1009) = tab n (fun j => (at_ xs j + at_ ys j) % 1009) :=
      tab_congr (fun j _ => by
        by_cases h : j < ys.length
        · rw [if_pos h]
        · rw [if_neg h, at_ge (xs := ys) (by omega)])
    refine Ev.step (fun k => ?_) (impl_PolyTrim_ev (tab n (fun j => (at_ xs j + at_ ys j) % 1009)) (by rw [tab_length]; exact hl) |> fun h => by rw [hn] at h; exact h)
    simp only [impl_PolyAdd.l1]
    rw [if_neg (by omega), e, hn]
    cases impl_PolyTrim.f k (tab (max xs.length ys.length) fun j => (at_ xs j + at_ ys j) % 1009) <;> rfl
  | succ d ih =>
    intro i hi
    have h1 : i < ys.length := by omega
    have h2 : i < n := by omega
    refine Ev.step (fun k => ?_) (ih (i + 1) (by omega))
    simp only [impl_PolyAdd.l1]
    rw [if_pos (by omega), if_pos (by omega), if_pos (by omega), if_pos (by rw [tab_length]; omega), impl_ScAdd_eq, Option.bind_some, Int.toNat_natCast, wrap_in (by omega) (by omega), rd_at, rd_at, tab_at _ _ _ h2, tab_set _ _ _ _ h2, if_neg (Nat.lt_irrefl i)]
    congr 1
    refine tab_congr (fun j hj => ?_)
    by_cases e : j = i
    · subst e; rw [if_pos rfl, if_pos (by omega)]; omega
    · rw [if_neg e]
      by_cases e2 : j < i
      · rw [if_pos e2, if_pos (by omega)]
      · rw [if_neg e2, if_neg (by omega)]
theorem impl_PolyAdd_l0 (xs ys : List Int) (n : Nat) (hn : n = max xs.length ys.length) (hl : n ≤ 17592186044416) (d : Nat) : ∀ i, i + d = xs.length →
    Ev (fun k => impl_PolyAdd.l0 k ys (tab n (fun j => if j < i then at_ xs j % 1009 else 0)) xs (xs.length : Int) (i : Int)) (padd xs ys) := by
  induction d with
  | zero =>
    intro i hi
    obtain rfl : i = xs.length := by omega
    have e : tab n (fun j => if j < xs.length then at_ xs j % 1009 else 0) = tab n (fun j => (at_ xs j + if j < 0 then at_ ys j else 0) % 1009) :=
      tab_congr (fun j _ => by
        by_cases h : j < xs.length
        · rw [if_pos h, if_neg (by omega)]; simp
        · rw [if_neg h, at_ge (by omega)]; rfl)
    refine Ev.step (fun k => ?_) (impl_PolyAdd_l1 xs ys n hn hl ys.length 0 (by omega))
    simp only [impl_PolyAdd.l0]
    rw [if_neg (by omega), e]
    rfl
  | succ d ih =>
    intro i hi
    have h1 : i < xs.length := by omega
    have h2 : i < n := by omega
    refine Ev.step (fun k => ?_) (ih (i + 1) (by omega))
    simp only [impl_PolyAdd.l0]
    rw [if_pos (by omega), if_pos (by omega), if_pos (by omega), impl_ScOf_eq, Option.bind_some, if_pos (by rw [tab_length]; omega), Int.toNat_natCast, wrap_in (by omega) (by omega), rd_at, tab_set _ _ _ _ h2]
    congr 1
    refine tab_congr (fun j hj => ?_)
    by_cases e : j = i
    · subst e; rw [if_pos rfl, if_pos (by omega)]
    · rw [if_neg e]
      by_cases e2 : j < i
      · rw [if_pos e2, if_pos (by omega)]
      · rw [if_neg e2, if_neg (by omega)]
theorem mx_nat (a b : Nat) : mx (a : Int) (b : Int) = ((max a b : Nat) : Int) := by unfold mx; split <;> omega
theorem impl_PolyAdd_ev (xs ys : List Int) (hx : xs.length ≤ 17592186044416) (hy : ys.length ≤ 17592186044416) : Ev (fun k => impl_PolyAdd.f k xs ys) (padd xs ys) := by
  have h := impl_PolyAdd_l0 xs ys _ rfl (by omega) xs.length 0 (by omega)
  refine Ev.congr (fun k => ?_) h
  simp only [impl_PolyAdd.f]
  rw [mx_nat, if_pos (by omega), Int.toNat_natCast, if_pos (by omega), replicate_tab]
  simp
def conv (xs ys : List Int) : Nat → Nat → Int
  | 0, _ => 0
  | i + 1, n => conv xs ys i n + if i ≤ n then at_ xs i * at_ ys (n - i) else 0
def rowp (xs ys : List Int) (i j n : Nat) : Int := if i ≤ n ∧ n - i < j then at_ xs i * at_ ys (n - i) else 0
theorem row_none (xs ys : List Int) (i n : Nat) : rowp xs ys i 0 n = 0 := by unfold rowp; rw [if_neg (by omega)]
theorem row_all (xs ys : List Int) (i n : Nat) : rowp xs ys i ys.length n = if i ≤ n then at_ xs i * at_ ys (n - i) else 0 := by
  unfold rowp
  by_cases h : i ≤ n
  · by_cases h2 : n - i < ys.length
    · rw [if_pos ⟨h, h2⟩, if_pos h]
    · rw [if_neg (by omega), if_pos h, at_ge (xs := ys) (by omega)]; simp
  · rw [if_neg (by omega), if_neg h]
theorem conv_end (xs ys : List Int) (n : Nat) : ∀ i, i ≤ xs.length → xs.length + ys.length ≤ n + 1 → conv xs ys i n = 0
  | 0, _, _ => rfl
  | i + 1, h, h2 => by
    rw [conv, conv_end xs ys n i (by omega) h2, if_pos (by omega), at_ge (xs := ys) (by omega)]
    simp
def pmul (xs ys : List Int) : List Int := if xs.length > 64 ∨ ys.length > 64 then [] else trim (tab (xs.length + ys.length) (conv xs ys xs.length))
theorem cut_replicate : ∀ n, cut (tab n (fun _ => 0)) = []
  | 0 => rfl
  | n + 1 => by
    have : tab (n + 1) (fun _ => 0) = tab n (fun _ => 0) ++ [0] := by simp [tab, List.range_succ]
    rw [this, cut_zero, cut_replicate n]
theorem tab_succ (n : Nat) (f : Nat → Int) : tab (n + 1) f = tab n f ++ [f n] := by simp [tab, List.range_succ]
theorem trim_idem (n : Nat) (f : Nat → Int) : trim (tab n (fun i => f i % 1009)) = trim (tab n f) := by
  unfold trim
  rw [map_tab, map_tab]
  congr 1
  exact tab_congr (fun i _ => by omega)
theorem trim_short (xs ys : List Int) (h : 0 < xs.length + ys.length) : trim (tab (xs.length + ys.length) (conv xs ys xs.length)) = trim (tab (xs.length + ys.length - 1) (conv xs ys xs.length)) := by
  obtain ⟨N, hN⟩ : ∃ N, xs.length + ys.length = N + 1 := ⟨xs.length + ys.length - 1, by omega⟩
  rw [hN, Nat.add_sub_cancel]
  unfold trim
  rw [tab_succ, conv_end xs ys N xs.length (Nat.le_refl _) (by omega), List.map_append]
  exact cut_zero _
theorem step_row (xs ys : List Int) (N i j : Nat) (h : i + j < N) :
    (tab N (fun n => (conv xs ys i n + rowp xs ys i j n) % 1009)).set (i + j) ((at_ (tab N (fun n => (conv xs ys i n + rowp xs ys i j n) % 1009)) (i + j) + at_ xs i * at_ ys j % 1009) % 1009) = tab N (fun n => (conv xs ys i n + rowp xs ys i (j + 1) n) % 1009) := by
  rw [tab_set _ _ _ _ h, tab_at _ _ _ h]
  refine tab_congr (fun n _ => ?_)
  by_cases e : n = i + j
  · subst e
    rw [if_pos rfl]
    have e1 : rowp xs ys i j (i + j) = 0 := by unfold rowp; rw [if_neg (by omega)]
    have e2 : rowp xs ys i (j + 1) (i + j) = at_ xs i * at_ ys j := by unfold rowp; rw [if_pos (by omega), show i + j - i = j by omega]
    rw [e1, e2]
    omega
  · rw [if_neg e]
    have e1 : rowp xs ys i j n = rowp xs ys i (j + 1) n := by
      unfold rowp
      by_cases h1 : i ≤ n ∧ n - i < j
      · rw [if_pos h1, if_pos (by omega)]
      · rw [if_neg h1, if_neg (by omega)]
    rw [e1]
theorem row_done (xs ys : List Int) (N i : Nat) : tab N (fun n => (conv xs ys i n + rowp xs ys i ys.length n) % 1009) = tab N (fun n => conv xs ys (i + 1) n % 1009) :=
  tab_congr (fun n _ => by rw [row_all, conv])
theorem row_start (xs ys : List Int) (N i : Nat) : tab N (fun n => conv xs ys i n % 1009) = tab N (fun n => (conv xs ys i n + rowp xs ys i 0 n) % 1009) :=
  tab_congr (fun n _ => by rw [row_none, Int.add_zero])
theorem impl_PolyMul_l1 (xs ys : List Int) (hx : xs.length ≤ 64) (hy : ys.length ≤ 64) (N : Nat) (hN : xs.length + ys.length ≤ N + 1) (i : Nat) (hi : i < xs.length) (r : List Int)
    (next : Ev (fun k => impl_PolyMul.l0 k ys (tab N (fun n => conv xs ys (i + 1) n % 1009)) xs (xs.length : Int) ((i + 1 : Nat) : Int)) r) (d : Nat) : ∀ j, j + d = ys.length →
    Ev (fun k => impl_PolyMul.l1 k ys (tab N (fun n => (conv xs ys i n + rowp xs ys i j n) % 1009)) (i : Int) (at_ xs i) xs (xs.length : Int) (i : Int) ys (ys.length : Int) (j : Int)) r := by
  induction d with
  | zero =>
    intro j hj
    obtain rfl : j = ys.length := by omega
    refine Ev.step (fun k => ?_) next
    simp only [impl_PolyMul.l1]
    rw [if_neg (by omega), wrap_in (by omega) (by omega), row_done]
    rfl
  | succ d ih =>
    intro j hj
    refine Ev.step (fun k => ?_) (ih (j + 1) (by omega))
    simp only [impl_PolyMul.l1]
    rw [if_pos (by omega), if_pos (by omega), if_pos (by omega), wrap_in (i := (i : Int) + (j : Int)) (by omega) (by omega), if_pos (by omega), if_pos (by rw [tab_length]; omega), impl_ScMul_eq, Option.bind_some, impl_ScAdd_eq, Option.bind_some, wrap_in (by omega) (by omega),
      show (i : Int) + (j : Int) = ((i + j : Nat) : Int) by omega, Int.toNat_natCast, rd_at, rd_at, step_row xs ys N i j (by omega)]
    rfl
theorem impl_PolyMul_l0 (xs ys : List Int) (hx : xs.length ≤ 64) (hy : ys.length ≤ 64) (N : Nat) (hN : xs.length + ys.length ≤ N + 1) (hN2 : N ≤ 128) (d : Nat) : ∀ i, i + d = xs.length →
    Ev (fun k => impl_PolyMul.l0 k ys (tab N (fun n => conv xs ys i n % 1009)) xs (xs.length : Int) (i : Int)) (trim (tab N (conv xs ys xs.length))) := by
  induction d with
  | zero =>
    intro i hi
    obtain rfl : i = xs.length := by omega
    refine Ev.step (fun k => ?_) (impl_PolyTrim_ev (tab N (fun n => conv xs ys xs.length n % 1009)) (by rw [tab_length]; omega) |> fun h => by rw [trim_idem] at h; exact h)
    simp only [impl_PolyMul.l0]
    rw [if_neg (by omega)]
    cases impl_PolyTrim.f k (tab N fun n => conv xs ys xs.length n % 1009) <;> rfl
  | succ d ih =>
    intro i hi
    refine Ev.step (fun k => ?_) (impl_PolyMul_l1 xs ys hx hy N hN i (by omega) _ (ih (i + 1) (by omega)) ys.length 0 (by omega))
    simp only [impl_PolyMul.l0]
    rw [if_pos (by omega), if_pos (by omega), if_pos (by omega), rd_at, row_start]
    rfl
theorem impl_PolyMul_ev (xs ys : List Int) : Ev (fun k => impl_PolyMul.f k xs ys) (pmul xs ys) := by
  by_cases h1 : xs.length > 64
  · rw [pmul, if_pos (.inl h1)]
    exact Ev.one fun k => by simp only [impl_PolyMul.f, impl_PolyMul.j0]; rw [if_pos (by omega), if_pos trivial]
  · by_cases h2 : ys.length > 64
    · rw [pmul, if_pos (.inr h2)]
      exact Ev.one fun k => by simp only [impl_PolyMul.f, impl_PolyMul.j0]; rw [if_neg (by omega), if_pos (decide_eq_true (by omega))]
    · rw [pmul, if_neg (by omega)]
      refine Ev.step (fun k => ?_) (impl_PolyMul_l0 xs ys (by omega) (by omega) (xs.length + ys.length) (by omega) (by omega) xs.length 0 (by omega))
      simp only [impl_PolyMul.f, impl_PolyMul.j0]
      rw [if_neg (by omega), if_neg (by simp; omega), wrap_in (by omega) (by omega), if_pos (by omega), show (xs.length : Int) + (ys.length : Int) = ((xs.length + ys.length : Nat) : Int) by omega, Int.toNat_natCast, if_pos (by omega), replicate_tab]
      rfl
theorem pmul_nil_l (ys : List Int) : pmul [] ys = [] := by
  unfold pmul
  split
  · rfl
  · unfold trim
    rw [map_tab]
    exact cut_replicate _
theorem pmul_length (xs ys : List Int) : (pmul xs ys).length ≤ 128 := by
  unfold pmul
  split
  · simp
  · have := trim_length (tab (xs.length + ys.length) (conv xs ys xs.length))
    rw [tab_length] at this
    omega
theorem padd_length (xs ys : List Int) : (padd xs ys).length ≤ max xs.length ys.length := by
  have := trim_length (tab (max xs.length ys.length) (fun i => (at_ xs i + at_ ys i) % 1009))
  rwa [tab_length] at this
def pz : Nat → Int → List Int → List Int
  | 0, _, acc => acc
  | d + 1, i, acc => pz d (i + 1) (pmul acc [-i, 1])
def pzero (n : Int) : List Int := if 0 ≤ n ∧ n ≤ 16 then pz n.toNat 1 [1] else []
theorem impl_PolyZero_l0 (n : Int) (hn : n ≤ 16) : ∀ (d : Nat) (i : Int) (acc : List Int), 1 ≤ i → i + (d : Int) = n + 1 → Ev (fun k => impl_PolyZero.l0 k n acc i) (pz d i acc)
  | 0, i, acc, h0, h => Ev.one fun k => by
    simp only [impl_PolyZero.l0]
    rw [if_neg (by omega)]
    rfl
  | d + 1, i, acc, h0, h => by
    obtain ⟨K1, h1⟩ := impl_PolyMul_ev acc [-i, 1]
    obtain ⟨K2, h2⟩ := impl_PolyZero_l0 n hn d (i + 1) (pmul acc [-i, 1]) (by omega) (by omega)
    refine ⟨K1 + K2 + 1, fun k hk => ?_⟩
    obtain ⟨k, rfl⟩ : ∃ m, k = m + 1 := ⟨k - 1, by omega⟩
    have e1 := h1 k (by omega)
    have e2 := h2 k (by omega)
    dsimp only at e1 e2
    simp only [impl_PolyZero.l0]
    rw [if_pos (by omega), wrap_in (i := -i) (by omega) (by omega), e1, Option.bind_some, wrap_in (by omega) (by omega)]
    exact e2
theorem impl_PolyZero_ev (n : Int) : Ev (fun k => impl_PolyZero.f k n) (pzero n) := by
  by_cases h1 : n < 0
  · rw [pzero, if_neg (by omega)]
    exact Ev.one fun k => by simp only [impl_PolyZero.f, impl_PolyZero.j0]; rw [if_pos h1, if_pos trivial]
  · by_cases h2 : n > 16
    · rw [pzero, if_neg (by omega)]
      exact Ev.one fun k => by simp only [impl_PolyZero.f, impl_PolyZero.j0]; rw [if_neg h1, if_pos (decide_eq_true h2)]
    · rw [pzero, if_pos (by omega)]
      refine Ev.step (fun k => ?_) (impl_PolyZero_l0 n (by omega) n.toNat 1 [1] (by omega) (by omega))
      simp only [impl_PolyZero.f, impl_PolyZero.j0]
      rw [if_neg h1, if_neg (by simpa using h2)]
theorem inv_ends : ∀ (k : Nat) (n : Int), 0 ≤ n → n < 2 ^ k → n ≤ 1007 → ∀ o b, ∃ r, spec_ScInv.l0 (k + 1) o b n = some r
  | 0, n, h0, h1, h2, o, b => by
    refine ⟨o, ?_⟩
    simp only [spec_ScInv.l0]
    rw [if_neg (by simp at h1; omega)]
  | k + 1, n, h0, h1, h2, o, b => by
    rw [spec_ScInv.l0]
    by_cases hn : n > 0
    · have hd : Int.tdiv n 2 = n / 2 := Int.tdiv_eq_ediv_of_nonneg h0
      have hp : (2 : Int) ^ (k + 1) = 2 * 2 ^ k := by rw [Int.pow_succ, Int.mul_comm]
      rw [if_pos hn, hd, wrap_in (by omega) (by omega), spec_ScMul_eq, spec_ScMul_eq]
      simp only [Option.bind_some]
      by_cases hm : Int.tmod n 2 = 1
      · rw [if_pos hm]
        exact inv_ends k (n / 2) (by omega) (by omega) (by omega) _ _
      · rw [if_neg hm]
        exact inv_ends k (n / 2) (by omega) (by omega) (by omega) _ _
    · exact ⟨o, by rw [if_neg hn]⟩
theorem inv_at (K k : Nat) (h : K = k + 1) (n : Int) (h0 : 0 ≤ n) (h1 : n < 2 ^ k) (h2 : n ≤ 1007) (o b : Int) : ∃ r, spec_ScInv.l0 K o b n = some r := by
  rw [h]
  exact inv_ends k n h0 h1 h2 o b
theorem inv_from (a : Int) : ∃ r, spec_ScInv.l0 11 1 (a % 1009) 1007 = some r := by
  obtain ⟨r, hr⟩ := inv_at 11 10 rfl 1007 (by decide) (by decide) (by decide) 1 (a % 1009)
  exact ⟨r, hr⟩
theorem inv_is (a : Int) (r : Int) (hr : spec_ScInv.l0 11 1 (a % 1009) 1007 = some r) : spec_ScInv.f 11 a = some r := by
  rw [spec_ScInv.f, spec_ScOf_eq, Option.bind_some]; exact hr
theorem inv_some (a : Int) : ∃ r, spec_ScInv.f 11 a = some r := by
  obtain ⟨r, hr⟩ := inv_from a
  exact ⟨r, inv_is a r hr⟩
def sinv (a : Int) : Int := (spec_ScInv.f 11 a).getD 0
theorem spec_ScInv_ev (a : Int) : Ev (fun k => spec_ScInv.f k a) (sinv a) := by
  obtain ⟨r, hr⟩ := inv_some a
  have e : sinv a = r := by unfold sinv; rw [hr]; rfl
  rw [e]
  exact Ev.of (fun k => spec_ScInv.mono a k) hr
theorem tmod_nat (a : Int) (h0 : 0 ≤ a) (h1 : a ≤ 9223372036854775807) : Int.tmod (wrap64 a) 1009 = a % 1009 := by
  rw [wrap_in (by omega) h1]
  exact Int.tmod_eq_emod_of_nonneg h0
theorem inv_loop (k : Nat) : ∀ o a n, 0 ≤ a → a ≤ 1008 → 0 ≤ o → o ≤ 1008 → impl_powerMod.l0 k a n 1009 o = spec_ScInv.l0 k o a n := by
  induction k with
  | zero => intros; rfl
  | succ k ih =>
    intro o a n h0 h1 h2 h3
    have b1 : 0 ≤ a * a ∧ a * a ≤ 1016064 := ⟨Int.mul_nonneg h0 h0, by have := Int.mul_le_mul h1 h1 h0 (by decide); omega⟩
    have b2 : 0 ≤ o * a ∧ o * a ≤ 1016064 := ⟨Int.mul_nonneg h2 h0, by have := Int.mul_le_mul h3 h1 h0 (by decide); omega⟩
    simp only [impl_powerMod.l0, spec_ScInv.l0, spec_ScMul_eq, Option.bind_some]
    have z : ¬ ((1009 : Int) = 0) := by decide
    by_cases hn : n > 0
    · rw [if_pos hn, if_pos hn]
      by_cases hm : Int.tmod n 2 = 1
      · rw [if_pos hm, if_pos hm, if_neg z, tmod_nat _ b1.1 (by omega), tmod_nat _ b2.1 (by omega), ih _ _ _ (by omega) (by omega) (by omega) (by omega)]
      · rw [if_neg hm, if_neg hm, if_neg z, tmod_nat _ b1.1 (by omega), ih _ _ _ (by omega) (by omega) h2 h3]
    · rw [if_neg hn, if_neg hn]
theorem impl_ScInv_ev (a : Int) : Ev (fun k => impl_ScInv.f k a) (sinv a) := by
  refine Ev.congr (fun k => ?_) (spec_ScInv_ev a)
  have e := impl_ScOf_eq a
  unfold impl_ScOf.f at e
  have e2 : impl_remainder.f a 1009 = some (a % 1009) := by
    cases h : impl_remainder.f a 1009 with
    | none => rw [h] at e; cases e
    | some v => rw [h] at e; exact e
  simp only [impl_ScInv.f, impl_powerMod.f, spec_ScInv.f, spec_ScOf_eq, e2, Option.bind_some]
  rw [inv_loop k 1 (a % 1009) 1007 (by omega) (by omega) (by omega) (by omega)]
  cases spec_ScInv.l0 k 1 (a % 1009) 1007 <;> rfl
def scale (xs : List Int) (c : Int) : List Int := xs.map (fun a => (a * c) % 1009)
theorem scale_length (xs : List Int) (c : Int) : (scale xs c).length = xs.length := by simp [scale]
theorem scale_tab (xs : List Int) (c : Int) : scale xs c = tab xs.length (fun i => (at_ xs i * c) % 1009) :=
  eq_tab (scale_length xs c) (fun i hi => by rw [at_lt (by rw [scale_length]; exact hi), at_lt hi]; simp [scale])
theorem impl_scaled_l0 (xs : List Int) (c : Int) (hl : xs.length ≤ 17592186044416) (d : Nat) : ∀ i, i + d = xs.length →
    Ev (fun k => impl_scaled.l0 k c (tab xs.length (fun j => if j < i then (at_ xs j * c) % 1009 else 0)) xs (xs.length : Int) (i : Int)) (scale xs c) := by
  induction d with
  | zero =>
    intro i hi
    obtain rfl : i = xs.length := by omega
    refine Ev.one fun k => ?_
    simp only [impl_scaled.l0]
    rw [if_neg (by omega), scale_tab]
    congr 1
    exact tab_congr (fun j hj => by rw [if_pos hj])
  | succ d ih =>
    intro i hi
    have h1 : i < xs.length := by omega
    refine Ev.step (fun k => ?_) (ih (i + 1) (by omega))
    simp only [impl_scaled.l0]
    rw [if_pos (by omega), if_pos (by omega), if_pos (by omega), impl_ScMul_eq, Option.bind_some, if_pos (by rw [tab_length]; omega), Int.toNat_natCast, wrap_in (by omega) (by omega), rd_at, tab_set _ _ _ _ h1]
    congr 1
    refine tab_congr (fun j hj => ?_)
    by_cases e : j = i
    · subst e; rw [if_pos rfl, if_pos (by omega)]
    · rw [if_neg e]
      by_cases e2 : j < i
      · rw [if_pos e2, if_pos (by omega)]
      · rw [if_neg e2, if_neg (by omega)]
theorem impl_scaled_ev (xs : List Int) (c : Int) (hl : xs.length ≤ 17592186044416) : Ev (fun k => impl_scaled.f k xs c) (scale xs c) := by
  refine Ev.congr (fun k => ?_) (impl_scaled_l0 xs c hl xs.length 0 (by omega))
  simp only [impl_scaled.f]
  rw [if_pos (by omega), Int.toNat_natCast, if_pos (by omega), replicate_tab]
  simp
def tb (i : Int) : Nat → Int → List Int → Int → List Int × Int
  | 0, _, t, b => (t, b)
  | d + 1, j, t, b => if j = i then tb i d (j + 1) t b else tb i d (j + 1) (pmul t [-(j + 1), 1]) ((b * (i - j)) % 1009)
def thr (xs : List Int) : Nat → Nat → List Int → List Int
  | 0, _, out => out
  | d + 1, i, out => thr xs d (i + 1) (padd out (scale (tb (i : Int) xs.length 0 [1] 1).1 ((at_ xs i * sinv (tb (i : Int) xs.length 0 [1] 1).2) % 1009)))
def pthrough (xs : List Int) : List Int := if xs.length > 16 then [] else thr xs xs.length 0 []
theorem tb_length (i : Int) : ∀ d j t b, t.length ≤ 128 → (tb i d j t b).1.length ≤ 128
  | 0, _, _, _, h => h
  | d + 1, j, t, b, h => by
    rw [tb]
    split
    · exact tb_length i d (j + 1) t b h
    · exact tb_length i d (j + 1) _ _ (pmul_length _ _)
theorem impl_PolyThrough_l1 (xs out : List Int) (hl : xs.length ≤ 16) (ho : out.length ≤ 128) (i : Nat) (hi : i < xs.length) (t1 : List Int) (b1 : Int) (ht1 : t1.length ≤ 128) (r : List Int)
    (next : Ev (fun k => impl_PolyThrough.l0 k xs (padd out (scale t1 ((at_ xs i * sinv b1) % 1009))) xs (xs.length : Int) ((i + 1 : Nat) : Int)) r) : ∀ (d : Nat) (j : Int) (t : List Int) (b : Int), 0 ≤ j → j + (d : Int) = (xs.length : Int) → tb (i : Int) d j t b = (t1, b1) → Ev (fun k => impl_PolyThrough.l1 k xs out (i : Int) (at_ xs i) t b xs (xs.length : Int) (i : Int) (xs.length : Int) j) r
  | 0, j, t, b, h0, hj, ht => by
    obtain ⟨rfl, rfl⟩ : t = t1 ∧ b = b1 := by simpa [tb] using ht
    obtain ⟨K1, h1⟩ := impl_ScInv_ev b
    obtain ⟨K2, h2⟩ := impl_scaled_ev t ((at_ xs i * sinv b) % 1009) (by omega)
    obtain ⟨K3, h3⟩ := impl_PolyAdd_ev out (scale t ((at_ xs i * sinv b) % 1009)) (by omega) (by rw [scale_length]; omega)
    obtain ⟨K4, h4⟩ := next
    refine ⟨K1 + K2 + K3 + K4 + 1, fun k hk => ?_⟩
    obtain ⟨k, rfl⟩ : ∃ m, k = m + 1 := ⟨k - 1, by omega⟩
    have e1 := h1 k (by omega)
    have e2 := h2 k (by omega)
    have e3 := h3 k (by omega)
    have e4 := h4 k (by omega)
    dsimp only at e1 e2 e3 e4
    simp only [impl_PolyThrough.l1]
    rw [if_neg (by omega), e1, Option.bind_some, impl_ScMul_eq, Option.bind_some, e2, Option.bind_some, e3, Option.bind_some, wrap_in (by omega) (by omega)]
    exact e4
  | d + 1, j, t, b, h0, hj, ht => by
    rw [tb] at ht
    by_cases e : j = (i : Int)
    · rw [if_pos e] at ht
      refine Ev.step (fun k => ?_) (impl_PolyThrough_l1 xs out hl ho i hi t1 b1 ht1 r next d (j + 1) t b (by omega) (by omega) ht)
      simp only [impl_PolyThrough.l1]
      rw [if_pos (by omega), if_pos e, wrap_in (by omega) (by omega)]
    · rw [if_neg e] at ht
      obtain ⟨K1, h1⟩ := impl_PolyMul_ev t [-(j + 1), 1]
      obtain ⟨K2, h2⟩ := impl_PolyThrough_l1 xs out hl ho i hi t1 b1 ht1 r next d (j + 1) _ _ (by omega) (by omega) ht
      refine ⟨K1 + K2 + 1, fun k hk => ?_⟩
      obtain ⟨k, rfl⟩ : ∃ m, k = m + 1 := ⟨k - 1, by omega⟩
      have e1 := h1 k (by omega)
      have e2 := h2 k (by omega)
      dsimp only at e1 e2
      simp only [impl_PolyThrough.l1]
      rw [if_pos (by omega), if_neg e, wrap_in (i := j + 1) (by omega) (by omega), wrap_in (i := -(j + 1)) (by omega) (by omega), e1, Option.bind_some, wrap_in (by omega) (by omega), impl_ScMul_eq, Option.bind_some]
      exact e2
theorem impl_PolyThrough_l0 (xs : List Int) (hl : xs.length ≤ 16) : ∀ (d i : Nat) (out : List Int), out.length ≤ 128 → i + d = xs.length → Ev (fun k => impl_PolyThrough.l0 k xs out xs (xs.length : Int) (i : Int)) (thr xs d i out)
  | 0, i, out, ho, hi => Ev.one fun k => by
    simp only [impl_PolyThrough.l0]
    rw [if_neg (by omega)]
    rfl
  | d + 1, i, out, ho, hi => by
    have h1 := tb_length (i : Int) xs.length 0 [1] 1 (by simp)
    have h2 := padd_length out (scale (tb (i : Int) xs.length 0 [1] 1).1 ((at_ xs i * sinv (tb (i : Int) xs.length 0 [1] 1).2) % 1009))
    rw [scale_length] at h2
    rw [thr]
    refine Ev.step (fun k => ?_) (impl_PolyThrough_l1 xs out hl ho i (by omega) _ _ h1 _ (impl_PolyThrough_l0 xs hl d (i + 1) _ (by omega) (by omega)) xs.length 0 [1] 1 (by omega) (by omega) rfl)
    simp only [impl_PolyThrough.l0]
    rw [if_pos (by omega), if_pos (by omega), if_pos (by omega), rd_at]
theorem impl_PolyThrough_ev (xs : List Int) : Ev (fun k => impl_PolyThrough.f k xs) (pthrough xs) := by
  unfold pthrough
  by_cases h : xs.length > 16
  · rw [if_pos h]
    exact Ev.one fun k => by simp only [impl_PolyThrough.f]; rw [if_pos (by omega)]
  · rw [if_neg h]
    refine Ev.congr (fun k => ?_) (impl_PolyThrough_l0 xs (by omega) xs.length 0 [] (by simp) (by omega))
    simp only [impl_PolyThrough.f]
    rw [if_neg (by omega)]
    rfl
theorem cut_zeros (xs : List Int) : ∀ n, cut (xs ++ List.replicate n 0) = cut xs
  | 0 => by simp
  | n + 1 => by rw [List.replicate_succ', ← List.append_assoc, cut_zero, cut_zeros xs n]
theorem at_append_zeros (xs : List Int) (n i : Nat) : at_ (xs ++ List.replicate n 0) i = at_ xs i := by
  by_cases h : i < xs.length
  · rw [at_lt (by simp; omega), at_lt h, List.getElem_append_left h]
  · rw [at_ge (xs := xs) (by omega)]
    by_cases h2 : i < (xs ++ List.replicate n 0).length
    · rw [at_lt h2, List.getElem_append_right (by omega)]
      simp
    · rw [at_ge (by omega)]
theorem cut_same_le {xs ys : List Int} (hl : xs.length ≤ ys.length) (h : ∀ i, at_ xs i = at_ ys i) : cut xs = cut ys := by
  have e : ys = xs ++ List.replicate (ys.length - xs.length) 0 := ext_at (by simp; omega) (fun i _ => by rw [at_append_zeros, h])
  rw [e, cut_zeros]
theorem cut_same {xs ys : List Int} (h : ∀ i, at_ xs i = at_ ys i) : cut xs = cut ys := by
  rcases Nat.le_total xs.length ys.length with hl | hl
  · exact cut_same_le hl h
  · exact (cut_same_le hl (fun i => (h i).symm)).symm
theorem take_at (xs : List Int) (q i : Nat) : at_ (xs.take q) i = if i < q then at_ xs i else 0 := by
  by_cases h : i < q
  · rw [if_pos h]
    by_cases h2 : i < xs.length
    · rw [at_lt (by simp; omega), at_lt h2]; simp
    · rw [at_ge (by simp; omega), at_ge (by omega)]
  · rw [if_neg h, at_ge (by simp; omega)]
theorem cut_take (xs : List Int) (q : Nat) (hz : ∀ i, q ≤ i → at_ xs i = 0) : cut xs = cut (xs.take q) :=
  cut_same (fun i => by
    rw [take_at]
    by_cases h : i < q
    · rw [if_pos h]
    · rw [if_neg h, hz i (by omega)])
theorem cut_full (xs : List Int) (h : xs = [] ∨ at_ xs (xs.length - 1) ≠ 0) : cut xs = xs := by
  rcases h with rfl | h
  · rfl
  · rcases List.eq_nil_or_concat xs with rfl | ⟨ys, c, rfl⟩
    · rfl
    · rw [List.concat_eq_append] at h ⊢
      refine cut_other ys c (fun e => h ?_)
      rw [at_lt (by simp)]
      simpa using e
theorem cut_top (xs : List Int) (q : Nat) (hz : ∀ i, q + 1 ≤ i → at_ xs i = 0) (h : at_ xs q ≠ 0) : cut xs = xs.take (q + 1) := by
  have hq : q < xs.length := by
    rcases Nat.lt_or_ge q xs.length with h1 | h1
    · exact h1
    · exact absurd (at_ge h1) h
  rw [cut_take xs (q + 1) hz]
  refine cut_full _ (.inr ?_)
  rw [take_at, List.length_take, Nat.min_eq_left (by omega), if_pos (by omega), Nat.add_sub_cancel]
  exact h
def Red (xs : List Int) : Prop := ∀ i, 0 ≤ at_ xs i ∧ at_ xs i ≤ 1008
theorem red_trim {xs : List Int} (h : Red xs) : trim xs = cut xs := by
  unfold trim
  exact cut_same (fun i => by rw [at_emod]; have := h i; omega)
theorem at_cut (xs : List Int) : ∀ i, at_ (cut xs) i = at_ xs i := by
  intro i
  induction h : xs.length generalizing xs with
  | zero =>
    obtain rfl := List.eq_nil_of_length_eq_zero h
    rfl
  | succ n ih =>
    rcases List.eq_nil_or_concat xs with rfl | ⟨ys, c, rfl⟩
    · rfl
    · rw [List.concat_eq_append] at h ⊢
      by_cases hc : c = 0
      · subst hc
        rw [cut_zero, ih ys (by simpa using h)]
        have := at_append_zeros ys 1 i
        simpa using this.symm
      · rw [cut_other ys c hc]
theorem at_trim (xs : List Int) (i : Nat) : at_ (trim xs) i = at_ xs i % 1009 := by unfold trim; rw [at_cut, at_emod]
theorem trim_red (xs : List Int) : Red (trim xs) := fun i => by rw [at_trim]; omega
theorem cut_last (xs : List Int) : cut xs = [] ∨ at_ (cut xs) ((cut xs).length - 1) ≠ 0 := by
  induction h : xs.length generalizing xs with
  | zero =>
    obtain rfl := List.eq_nil_of_length_eq_zero h
    exact .inl rfl
  | succ n ih =>
    rcases List.eq_nil_or_concat xs with rfl | ⟨ys, c, rfl⟩
    · exact .inl rfl
    · rw [List.concat_eq_append] at h ⊢
      by_cases hc : c = 0
      · subst hc
        rw [cut_zero]
        exact ih ys (by simpa using h)
      · rw [cut_other ys c hc]
        refine .inr ?_
        rw [at_lt (by simp)]
        simpa using hc
theorem cut_cut (xs : List Int) : cut (cut xs) = cut xs := cut_full _ (cut_last xs)
def take_away (xs ys : List Int) (s : Nat) (c : Int) (j : Nat) : List Int := tab xs.length (fun n => if s ≤ n ∧ n - s < j then (at_ xs n - at_ ys (n - s) * c) % 1009 else at_ xs n)
theorem away_length (xs ys : List Int) (s : Nat) (c : Int) (j : Nat) : (take_away xs ys s c j).length = xs.length := tab_length _ _
theorem away_none (xs ys : List Int) (s : Nat) (c : Int) : take_away xs ys s c 0 = xs := by
  refine (eq_tab rfl (fun i hi => ?_)).symm
  rw [if_neg (by omega)]
theorem away_at (xs ys : List Int) (s : Nat) (c : Int) (j i : Nat) (h : i < xs.length) : at_ (take_away xs ys s c j) i = if s ≤ i ∧ i - s < j then (at_ xs i - at_ ys (i - s) * c) % 1009 else at_ xs i := tab_at _ _ _ h
theorem away_step (xs ys : List Int) (s : Nat) (c : Int) (j : Nat) (h : s + j < xs.length) (v : Int) (hv : v = (at_ xs (s + j) - at_ ys j * c) % 1009) :
    (take_away xs ys s c j).set (s + j) v = take_away xs ys s c (j + 1) := by
  unfold take_away
  rw [tab_set _ _ _ _ h]
  refine tab_congr (fun n hn => ?_)
  by_cases e : n = s + j
  · subst e
    rw [if_pos rfl, if_pos (by omega), hv, show s + j - s = j by omega]
  · rw [if_neg e]
    by_cases h1 : s ≤ n ∧ n - s < j
    · rw [if_pos h1, if_pos (by omega)]
    · rw [if_neg h1, if_neg (by omega)]
def away (xs ys : List Int) (s : Nat) (c : Int) : List Int := take_away xs ys s c ys.length
def elim (ys : List Int) (top : Int) : Nat → List Int → List Int → List Int × List Int
  | 0, xs, out => (xs, out)
  | n + 1, xs, out => elim ys top n (away xs ys n ((at_ xs (n + ys.length - 1) * top) % 1009)) (out.set n ((at_ xs (n + ys.length - 1) * top) % 1009))
theorem elim_length (ys : List Int) (top : Int) : ∀ n xs out, (elim ys top n xs out).1.length = xs.length ∧ (elim ys top n xs out).2.length = out.length
  | 0, _, _ => ⟨rfl, rfl⟩
  | n + 1, xs, out => by
    have h := elim_length ys top n (away xs ys n ((at_ xs (n + ys.length - 1) * top) % 1009)) (out.set n ((at_ xs (n + ys.length - 1) * top) % 1009))
    exact ⟨h.1.trans (away_length _ _ _ _ _), h.2.trans (by simp)⟩
theorem impl_ScNeg_eq (a : Int) : impl_ScNeg.f a = some ((-a) % 1009) := by
  simp only [impl_ScNeg.f, impl_ScOf_eq, Option.bind_some]
  rw [wrap_in (by omega) (by omega)]
  simp only [Option.some.injEq]
  omega
theorem sinv_all : ∀ b : Fin 1009, b.val ≠ 0 → ((b.val : Int) * sinv (b.val : Int)) % 1009 = 1 := by decide +kernel
theorem sinv_right (b : Int) (h0 : 0 < b) (h1 : b ≤ 1008) : (b * sinv b) % 1009 = 1 := by
  have h := sinv_all ⟨b.toNat, by omega⟩ (by simp; omega)
  rwa [show (((⟨b.toNat, by omega⟩ : Fin 1009)).val : Int) = b by simp; omega] at h
theorem cancel (P y top : Int) (h : (y * top) % 1009 = 1) : (P - y * ((P * top) % 1009)) % 1009 = 0 := by
  have h1 : (y * ((P * top) % 1009)) % 1009 = P % 1009 := by
    rw [Int.mul_emod, Int.emod_emod, ← Int.mul_emod, Int.mul_left_comm, Int.mul_emod, h]
    omega
  omega
theorem away_red {xs ys : List Int} (s : Nat) (c : Int) (h : Red xs) : Red (away xs ys s c) := by
  intro i
  by_cases hi : i < xs.length
  · rw [away, away_at _ _ _ _ _ _ hi]
    split
    · omega
    · exact h i
  · rw [at_ge (by rw [away, away_length]; omega)]
    omega
theorem elim_red (ys : List Int) (top : Int) : ∀ n xs out, Red xs → Red (elim ys top n xs out).1
  | 0, _, _, h => h
  | n + 1, xs, out, h => elim_red ys top n _ _ (away_red _ _ h)
theorem away_zero {xs : List Int} (ys : List Int) (s : Nat) (h : Red xs) : away xs ys s 0 = xs := by
  refine (eq_tab rfl (fun i hi => ?_)).symm
  have := h i
  split
  · simp only [Int.mul_zero, Int.sub_zero]; omega
  · rfl
theorem set_zero (out : List Int) (n : Nat) (h : at_ out n = 0) : out.set n 0 = out := by
  refine ext_at (by simp) (fun i hi => ?_)
  have hl : i < out.length := by simpa using hi
  by_cases hn : n < out.length
  · rw [at_set _ _ _ _ hn]
    split
    · rename_i e; rw [e, h]
    · rfl
  · rw [List.set_eq_of_length_le (by omega)]
theorem impl_Divide_l1 (xs ys out : List Int) (top : Int) (hx : xs.length ≤ 64) (n : Nat) (c : Int) (hn : n + ys.length ≤ xs.length) (r : List Int × List Int)
    (next : Ev (fun k => impl_PolyDivide.l0 k (trim (away xs ys n c)) ys top out) r) (d : Nat) : ∀ j, j + d = ys.length →
    Ev (fun k => impl_PolyDivide.l1 k (take_away xs ys n c j) ys top out (n : Int) c ys (ys.length : Int) (j : Int)) r := by
  induction d with
  | zero =>
    intro j hj
    obtain rfl : j = ys.length := by omega
    obtain ⟨K1, h1⟩ := impl_PolyTrim_ev (away xs ys n c) (by rw [away, away_length]; omega)
    obtain ⟨K2, h2⟩ := next
    refine ⟨K1 + K2 + 1, fun k hk => ?_⟩
    obtain ⟨k, rfl⟩ : ∃ m, k = m + 1 := ⟨k - 1, by omega⟩
    have e1 := h1 k (by omega)
    have e2 := h2 k (by omega)
    dsimp only at e1 e2
    simp only [impl_PolyDivide.l1]
    rw [if_neg (by omega)]
    rw [away] at e1
    rw [e1, Option.bind_some]
    exact e2
  | succ d ih =>
    intro j hj
    refine Ev.step (fun k => ?_) (ih (j + 1) (by omega))
    simp only [impl_PolyDivide.l1]
    rw [if_pos (by omega), if_pos (by omega), if_pos (by omega), wrap_in (i := (n : Int) + (j : Int)) (by omega) (by omega), if_pos (by omega), if_pos (by rw [away_length]; omega), impl_ScMul_eq, Option.bind_some, impl_ScNeg_eq, Option.bind_some, impl_ScAdd_eq, Option.bind_some, wrap_in (by omega) (by omega),
      show (n : Int) + (j : Int) = ((n + j : Nat) : Int) by omega, Int.toNat_natCast, rd_at, rd_at, away_at _ _ _ _ _ _ (by omega), if_neg (by omega), away_step xs ys n c j (by omega) _ (by omega)]
    rfl
theorem impl_Divide_l0 (ys : List Int) (top : Int) (hy : 0 < ys.length) (hy2 : ys.length ≤ 64) (ht : (at_ ys (ys.length - 1) * top) % 1009 = 1) : ∀ (n : Nat) (xs out : List Int), Red xs → xs.length ≤ 64 → out.length ≤ 64 → n ≤ out.length →
    (∀ i, n + ys.length - 1 ≤ i → at_ xs i = 0) → (∀ i, i < n → at_ out i = 0) →
    Ev (fun k => impl_PolyDivide.l0 k (cut xs) ys top out) (trim (elim ys top n xs out).2, cut (elim ys top n xs out).1)
  | 0, xs, out, hr, hx, ho, hn, hz, hoz => by
    obtain ⟨K1, h1⟩ := impl_PolyTrim_ev out (by omega)
    refine ⟨K1 + 1, fun k hk => ?_⟩
    obtain ⟨k, rfl⟩ : ∃ m, k = m + 1 := ⟨k - 1, by omega⟩
    have e1 := h1 k (by omega)
    dsimp only at e1
    have hc : (cut xs).length < ys.length := by
      rw [cut_take xs (ys.length - 1) (fun i hi => hz i (by omega))]
      have := cut_length (xs.take (ys.length - 1))
      rw [List.length_take] at this
      omega
    simp only [impl_PolyDivide.l0]
    rw [if_neg (by omega), e1, Option.bind_some]
    rfl
  | n + 1, xs, out, hr, hx, ho, hn, hz, hoz => by
    by_cases h0 : at_ xs (n + ys.length - 1) = 0
    · have e : elim ys top (n + 1) xs out = elim ys top n xs out := by
        rw [elim, h0, Int.zero_mul, show (0 : Int) % 1009 = 0 from rfl, away_zero ys n hr, set_zero out n (hoz n (by omega))]
      rw [e]
      refine impl_Divide_l0 ys top hy hy2 ht n xs out hr hx ho (by omega) (fun i hi => ?_) (fun i hi => hoz i (by omega))
      by_cases hi2 : i = n + ys.length - 1
      · rw [hi2, h0]
      · exact hz i (by omega)
    · have hlen : n + ys.length ≤ xs.length := by
        rcases Nat.lt_or_ge (n + ys.length - 1) xs.length with h1 | h1
        · omega
        · exact absurd (at_ge h1) h0
      have hcut : cut xs = xs.take (n + ys.length) := by
        have := cut_top xs (n + ys.length - 1) (fun i hi => hz i (by omega)) h0
        rwa [show n + ys.length - 1 + 1 = n + ys.length by omega] at this
      have hl : (xs.take (n + ys.length)).length = n + ys.length := by rw [List.length_take]; omega
      have hp : at_ (xs.take (n + ys.length)) (n + ys.length - 1) = at_ xs (n + ys.length - 1) := by rw [take_at, if_pos (by omega)]
      rw [elim]
      generalize hc : (at_ xs (n + ys.length - 1) * top) % 1009 = c
      have htr : trim (away (xs.take (n + ys.length)) ys n c) = cut (away xs ys n c) := by
        rw [red_trim (away_red n c (fun i => by rw [take_at]; split; exact hr i; omega))]
        refine cut_same (fun i => ?_)
        by_cases hi : i < n + ys.length
        · rw [away, away, away_at _ _ _ _ _ _ (by omega), away_at _ _ _ _ _ _ (by omega), take_at, if_pos hi]
        · rw [at_ge (by rw [away, away_length]; omega)]
          by_cases hi2 : i < xs.length
          · rw [away, away_at _ _ _ _ _ _ hi2, if_neg (by omega), hz i (by omega)]
          · rw [at_ge (by rw [away, away_length]; omega)]
      have next := impl_Divide_l0 ys top hy hy2 ht n (away xs ys n c) (out.set n c) (away_red _ _ hr) (by rw [away, away_length]; exact hx) (by simpa using ho) (by simp; omega)
        (fun i hi => by
          by_cases hi2 : i < xs.length
          · rw [away, away_at _ _ _ _ _ _ hi2]
            by_cases hi3 : i = n + ys.length - 1
            · subst hi3
              rw [if_pos (by omega), show n + ys.length - 1 - n = ys.length - 1 by omega, ← hc]
              exact cancel _ _ _ ht
            · rw [if_neg (by omega), hz i (by omega)]
          · exact at_ge (by rw [away, away_length]; omega))
        (fun i hi => by rw [at_set _ _ _ _ (by omega), if_neg (by omega), hoz i (by omega)])
      rw [← htr] at next
      have h2 := impl_Divide_l1 (xs.take (n + ys.length)) ys (out.set n c) top (by omega) n c (by omega) _ next ys.length 0 (by omega)
      rw [away_none] at h2
      refine Ev.step (fun k => ?_) h2
      simp only [impl_PolyDivide.l0]
      rw [hcut, hl, if_pos (by omega), wrap_in (i := ((n + ys.length : Nat) : Int) - 1) (by omega) (by omega), if_pos (by omega), if_pos (by omega), impl_ScMul_eq, Option.bind_some, wrap_in (by omega) (by omega), show ((n + ys.length : Nat) : Int) - (ys.length : Int) = (n : Int) by omega, if_pos (by omega), if_pos (by omega),
        show ((n + ys.length : Nat) : Int) - 1 = ((n + ys.length - 1 : Nat) : Int) by omega, rd_at, hp, hc, Int.toNat_natCast]
      rfl
def pdivide (xs ys : List Int) : List Int × List Int :=
  if xs.length > 64 ∨ ys.length > 64 then ([], []) else
  if (trim ys).length = 0 ∨ (trim xs).length < (trim ys).length then ([], trim xs) else
  (trim (elim (trim ys) (sinv (at_ (trim ys) ((trim ys).length - 1))) ((trim xs).length - (trim ys).length + 1) (trim xs) (tab ((trim xs).length - (trim ys).length + 1) (fun _ => 0))).2,
   cut (elim (trim ys) (sinv (at_ (trim ys) ((trim ys).length - 1))) ((trim xs).length - (trim ys).length + 1) (trim xs) (tab ((trim xs).length - (trim ys).length + 1) (fun _ => 0))).1)
theorem cut_trim (xs : List Int) : cut (trim xs) = trim xs := cut_cut _
theorem last_inv (ys : List Int) (h : (trim ys).length ≠ 0) : (at_ (trim ys) ((trim ys).length - 1) * sinv (at_ (trim ys) ((trim ys).length - 1))) % 1009 = 1 := by
  have h1 := trim_red ys ((trim ys).length - 1)
  have h2 : at_ (trim ys) ((trim ys).length - 1) ≠ 0 := by
    rcases cut_last (ys.map (· % 1009)) with h3 | h3
    · exact absurd (by rw [trim, h3]; rfl) h
    · exact h3
  exact sinv_right _ (by omega) (by omega)
theorem impl_PolyDivide_ev (xs ys : List Int) : Ev (fun k => impl_PolyDivide.f k xs ys) (pdivide xs ys) := by
  by_cases h1 : xs.length > 64
  · rw [pdivide, if_pos (.inl h1)]
    exact Ev.one fun k => by simp only [impl_PolyDivide.f, impl_PolyDivide.j0]; rw [if_pos (by omega), if_pos trivial]
  by_cases h2 : ys.length > 64
  · rw [pdivide, if_pos (.inr h2)]
    exact Ev.one fun k => by simp only [impl_PolyDivide.f, impl_PolyDivide.j0]; rw [if_neg (by omega), if_pos (decide_eq_true (by omega))]
  have l1 := trim_length xs
  have l2 := trim_length ys
  have hf : ∀ k, impl_PolyDivide.f (k + 1) xs ys = impl_PolyDivide.j0 (k + 1) xs ys false := by
    intro k
    simp only [impl_PolyDivide.f]
    rw [if_neg (by omega), decide_eq_false (by omega)]
  obtain ⟨K1, e1⟩ := impl_PolyTrim_ev xs (by omega)
  obtain ⟨K2, e2⟩ := impl_PolyTrim_ev ys (by omega)
  obtain ⟨K3, e3⟩ := impl_ScInv_ev (at_ (trim ys) ((trim ys).length - 1))
  rw [pdivide, if_neg (by omega)]
  by_cases h3 : (trim ys).length = 0
  · rw [if_pos (.inl h3)]
    refine ⟨K1 + K2 + 1, fun k hk => ?_⟩
    obtain ⟨k, rfl⟩ : ∃ m, k = m + 1 := ⟨k - 1, by omega⟩
    have g1 := e1 k (by omega)
    have g2 := e2 k (by omega)
    dsimp only at g1 g2 ⊢
    rw [hf]
    simp only [impl_PolyDivide.j0, g1, g2, Option.bind_some]
    rw [if_neg (by simp), if_pos (by omega)]
  · have hfin : ∀ r, (∃ K, ∀ k, K ≤ k → impl_PolyDivide.l0 k (trim xs) (trim ys) (sinv (at_ (trim ys) ((trim ys).length - 1))) (tab ((trim xs).length + 1 - (trim ys).length) (fun _ => 0)) = some r) → Ev (fun k => impl_PolyDivide.f k xs ys) r := by
      rintro r ⟨K4, e4⟩
      refine ⟨K1 + K2 + K3 + K4 + 1, fun k hk => ?_⟩
      obtain ⟨k, rfl⟩ : ∃ m, k = m + 1 := ⟨k - 1, by omega⟩
      have g1 := e1 k (by omega)
      have g2 := e2 k (by omega)
      have g3 := e3 k (by omega)
      have g4 := e4 k (by omega)
      dsimp only at g1 g2 g3 ⊢
      rw [hf]
      simp only [impl_PolyDivide.j0, g1, g2, Option.bind_some]
      have hm : mx (wrap64 (wrap64 (((trim xs).length : Int) - ((trim ys).length : Int)) + 1)) 0 = (((trim xs).length + 1 - (trim ys).length : Nat) : Int) := by
        rw [wrap_in (i := ((trim xs).length : Int) - ((trim ys).length : Int)) (by omega) (by omega), wrap_in (by omega) (by omega)]
        unfold mx
        split <;> omega
      rw [if_neg (by simp), if_neg (by omega), wrap_in (i := ((trim ys).length : Int) - 1) (by omega) (by omega), if_pos (by omega), if_pos (by omega), show ((trim ys).length : Int) - 1 = (((trim ys).length - 1 : Nat) : Int) by omega, rd_at, g3, Option.bind_some, hm, if_pos (by omega), Int.toNat_natCast, if_pos (by omega), replicate_tab]
      exact g4
    by_cases h4 : (trim xs).length < (trim ys).length
    · rw [if_pos (.inr h4)]
      refine hfin _ ?_
      rw [show (trim xs).length + 1 - (trim ys).length = 0 by omega]
      obtain ⟨K5, e5⟩ := impl_PolyTrim_ev [] (by simp)
      refine ⟨K5 + 1, fun k hk => ?_⟩
      obtain ⟨k, rfl⟩ : ∃ m, k = m + 1 := ⟨k - 1, by omega⟩
      have g5 := e5 k (by omega)
      dsimp only at g5
      simp only [impl_PolyDivide.l0]
      rw [if_neg (by omega), show tab 0 (fun _ => 0) = [] from rfl, g5]
      rfl
    · rw [if_neg (by omega)]
      refine hfin _ ?_
      rw [show (trim xs).length + 1 - (trim ys).length = (trim xs).length - (trim ys).length + 1 by omega]
      have h := impl_Divide_l0 (trim ys) (sinv (at_ (trim ys) ((trim ys).length - 1))) (by omega) (by omega) (last_inv ys h3) ((trim xs).length - (trim ys).length + 1) (trim xs) (tab ((trim xs).length - (trim ys).length + 1) (fun _ => 0))
        (trim_red xs) (by omega) (by rw [tab_length]; omega) (by rw [tab_length]; omega) (fun i hi => at_ge (by omega)) (fun i hi => by rw [tab_at _ _ _ hi])
      rw [cut_trim] at h
      exact h
theorem elim_keep (ys : List Int) (top : Int) : ∀ (n : Nat) (xs out : List Int) (j : Nat), n ≤ j → at_ (elim ys top n xs out).2 j = at_ out j
  | 0, _, _, _, _ => rfl
  | n + 1, xs, out, j, h => by
    rw [elim, elim_keep ys top n _ _ j (by omega)]
    by_cases hn : n < out.length
    · rw [at_set _ _ _ _ hn, if_neg (by omega)]
    · rw [List.set_eq_of_length_le (by omega)]
theorem mul_cong {a b : Int} (c : Int) (h : a % 1009 = b % 1009) : (a * c) % 1009 = (b * c) % 1009 := by rw [Int.mul_emod, h, ← Int.mul_emod]
theorem conv_cong {xs xs' : List Int} (ys : List Int) (h : ∀ j, at_ xs j % 1009 = at_ xs' j % 1009) (n : Nat) : ∀ k, conv xs ys k n % 1009 = conv xs' ys k n % 1009
  | 0 => rfl
  | k + 1 => by
    have h1 := conv_cong ys h n k
    rw [conv, conv]
    by_cases c : k ≤ n
    · have h2 := mul_cong (at_ ys (n - k)) (h k)
      rw [if_pos c, if_pos c]
      omega
    · rw [if_neg c, if_neg c]
      omega
theorem conv_more (xs ys : List Int) (n : Nat) : ∀ d, conv xs ys (xs.length + d) n = conv xs ys xs.length n
  | 0 => rfl
  | d + 1 => by
    rw [← Nat.add_assoc, conv, conv_more xs ys n d, at_ge (xs := xs) (by omega)]
    simp
theorem elim_sum (ys : List Int) (top : Int) : ∀ (n : Nat) (xs out : List Int), n ≤ out.length → ∀ i, i < xs.length → at_ xs i % 1009 = (at_ (elim ys top n xs out).1 i + conv (elim ys top n xs out).2 ys n i) % 1009
  | 0, xs, out, _, i, _ => by simp [elim, conv]
  | n + 1, xs, out, hn, i, hi => by
    rw [elim]
    generalize (at_ xs (n + ys.length - 1) * top) % 1009 = c
    have h := elim_sum ys top n (away xs ys n c) (out.set n c) (by simp; omega) i (by rw [away, away_length]; exact hi)
    have hk := elim_keep ys top n (away xs ys n c) (out.set n c) n (Nat.le_refl n)
    rw [at_set _ _ _ _ (by omega), if_pos rfl] at hk
    rw [conv, hk]
    rw [away, away_at _ _ _ _ _ _ hi] at h
    rw [← away] at h
    by_cases h1 : n ≤ i
    · rw [if_pos h1]
      by_cases h2 : i - n < ys.length
      · rw [if_pos ⟨h1, h2⟩] at h
        rw [Int.mul_comm c]
        omega
      · rw [if_neg (by omega)] at h
        rw [at_ge (xs := ys) (by omega), Int.mul_zero]
        omega
    · rw [if_neg (by omega)] at h
      rw [if_neg h1]
      omega
theorem away_top (ys : List Int) (top : Int) (hy : 0 < ys.length) (ht : (at_ ys (ys.length - 1) * top) % 1009 = 1) (xs : List Int) (n : Nat) (hz : ∀ i, n + ys.length ≤ i → at_ xs i = 0) :
    ∀ i, n + ys.length - 1 ≤ i → at_ (away xs ys n ((at_ xs (n + ys.length - 1) * top) % 1009)) i = 0 := by
  intro i hi
  by_cases hi2 : i < xs.length
  · rw [away, away_at _ _ _ _ _ _ hi2]
    by_cases hi3 : i = n + ys.length - 1
    · subst hi3
      rw [if_pos (by omega), show n + ys.length - 1 - n = ys.length - 1 by omega]
      exact cancel _ _ _ ht
    · rw [if_neg (by omega), hz i (by omega)]
  · exact at_ge (by rw [away, away_length]; omega)
theorem elim_left (ys : List Int) (top : Int) (hy : 0 < ys.length) (ht : (at_ ys (ys.length - 1) * top) % 1009 = 1) : ∀ (n : Nat) (xs out : List Int), (∀ i, n + ys.length - 1 ≤ i → at_ xs i = 0) → ∀ i, ys.length - 1 ≤ i → at_ (elim ys top n xs out).1 i = 0
  | 0, xs, out, hz, i, hi => hz i (by omega)
  | n + 1, xs, out, hz, i, hi => by
    rw [elim]
    exact elim_left ys top hy ht n _ _ (away_top ys top hy ht xs n (fun i hi => hz i (by omega))) i hi
theorem at_pmul (xs ys : List Int) (hx : xs.length ≤ 64) (hy : ys.length ≤ 64) (i : Nat) : at_ (pmul xs ys) i = conv xs ys xs.length i % 1009 := by
  rw [pmul, if_neg (by omega), at_trim]
  by_cases h : i < xs.length + ys.length
  · rw [tab_at _ _ _ h]
  · rw [at_ge (by rw [tab_length]; omega), conv_end xs ys i xs.length (Nat.le_refl _) (by omega)]
theorem padd_is (xs ys zs : List Int) (h : ∀ i, (at_ xs i + at_ ys i) % 1009 = at_ zs i % 1009) : padd xs ys = trim zs := by
  unfold padd trim
  refine cut_same (fun i => ?_)
  rw [at_emod, at_emod, ← h i]
  by_cases hi : i < max xs.length ys.length
  · rw [tab_at _ _ _ hi]; omega
  · rw [at_ge (by rw [tab_length]; omega), at_ge (xs := xs) (by omega), at_ge (xs := ys) (by omega)]; rfl
theorem trim_trim (xs : List Int) : trim (trim xs) = trim xs := by rw [red_trim (trim_red xs), cut_trim]
theorem divide_back (xs ys : List Int) (hx : xs.length ≤ 64) (hy : ys.length ≤ 64) : padd (pmul (pdivide xs ys).1 (trim ys)) (pdivide xs ys).2 = trim xs := by
  have l1 := trim_length xs
  have l2 := trim_length ys
  rw [pdivide, if_neg (by omega)]
  by_cases h : (trim ys).length = 0 ∨ (trim xs).length < (trim ys).length
  · rw [if_pos h]
    dsimp only
    rw [pmul_nil_l, ← trim_trim xs]
    refine padd_is _ _ _ (fun i => ?_)
    rw [at_ge (xs := []) (by simp), Int.zero_add, at_trim]
    omega
  · rw [if_neg h]
    dsimp only
    rw [← trim_trim xs]
    have hf := elim_length (trim ys) (sinv (at_ (trim ys) ((trim ys).length - 1))) ((trim xs).length - (trim ys).length + 1) (trim xs) (tab ((trim xs).length - (trim ys).length + 1) (fun _ => 0))
    have hs := elim_sum (trim ys) (sinv (at_ (trim ys) ((trim ys).length - 1))) ((trim xs).length - (trim ys).length + 1) (trim xs) (tab ((trim xs).length - (trim ys).length + 1) (fun _ => 0)) (by rw [tab_length]; omega)
    rw [tab_length] at hf
    rw [trim_trim]
    generalize elim (trim ys) (sinv (at_ (trim ys) ((trim ys).length - 1))) ((trim xs).length - (trim ys).length + 1) (trim xs) (tab ((trim xs).length - (trim ys).length + 1) (fun _ => 0)) = e at *
    obtain ⟨L, F⟩ := e
    dsimp only at *
    have lq := trim_length F
    rw [← trim_trim xs]
    refine padd_is _ _ _ (fun i => ?_)
    rw [at_pmul _ _ (by omega) (by omega), at_cut]
    have e1 : conv (trim F) (trim ys) (trim F).length i = conv (trim F) (trim ys) F.length i := by
      have := conv_more (trim F) (trim ys) i (F.length - (trim F).length)
      rw [show (trim F).length + (F.length - (trim F).length) = F.length by omega] at this
      exact this.symm
    have e2 := conv_cong (xs := trim F) (xs' := F) (trim ys) (fun j => by rw [at_trim]; omega) i F.length
    rw [e1]
    by_cases hi : i < (trim xs).length
    · have h3 := hs i hi
      rw [hf.2] at e2
      rw [hf.2]
      omega
    · have e3 := conv_end F (trim ys) i F.length (Nat.le_refl _) (by omega)
      have e4 : at_ L i = 0 := at_ge (by omega)
      have e5 : at_ (trim xs) i = 0 := at_ge (by omega)
      rw [e3] at e2
      rw [e4, e5]
      omega
theorem divide_left (xs ys : List Int) (hx : xs.length ≤ 64) (hy : ys.length ≤ 64) : (trim ys).length = 0 ∨ (pdivide xs ys).2.length < (trim ys).length := by
  rw [pdivide, if_neg (by omega)]
  by_cases h : (trim ys).length = 0
  · exact .inl h
  · refine .inr ?_
    by_cases h2 : (trim xs).length < (trim ys).length
    · rw [if_pos (.inr h2)]
      exact h2
    · rw [if_neg (by omega)]
      dsimp only
      rw [cut_take _ ((trim ys).length - 1) (elim_left (trim ys) _ (by omega) (last_inv ys h) _ _ _ (fun i hi => at_ge (by omega)))]
      have := cut_length ((elim (trim ys) (sinv (at_ (trim ys) ((trim ys).length - 1))) ((trim xs).length - (trim ys).length + 1) (trim xs) (tab ((trim xs).length - (trim ys).length + 1) (fun _ => 0))).1.take ((trim ys).length - 1))
      rw [List.length_take] at this
      omega
def evn (f : Nat → Int) (x : Int) : Nat → Int
  | 0 => 0
  | n + 1 => evn f x n + f n * x ^ n
theorem evn_cong {f g : Nat → Int} (x : Int) : ∀ n, (∀ i, i < n → f i % 1009 = g i % 1009) → evn f x n % 1009 = evn g x n % 1009
  | 0, _ => rfl
  | n + 1, h => by
    have h1 := evn_cong x n (fun i hi => h i (by omega))
    have h2 := mul_cong (x ^ n) (h n (by omega))
    rw [evn, evn]
    omega
theorem evn_eq {f g : Nat → Int} (x : Int) : ∀ n, (∀ i, i < n → f i = g i) → evn f x n = evn g x n
  | 0, _ => rfl
  | n + 1, h => by rw [evn, evn, evn_eq x n (fun i hi => h i (by omega)), h n (by omega)]
theorem evn_more (f : Nat → Int) (x : Int) (n : Nat) (h : ∀ i, n ≤ i → f i = 0) : ∀ d, evn f x (n + d) = evn f x n
  | 0 => rfl
  | d + 1 => by rw [← Nat.add_assoc, evn, evn_more f x n h d, h (n + d) (by omega)]; simp
theorem evn_add (f g : Nat → Int) (x : Int) : ∀ n, evn (fun i => f i + g i) x n = evn f x n + evn g x n
  | 0 => rfl
  | n + 1 => by rw [evn, evn, evn, evn_add f g x n, Int.add_mul]; omega
theorem evn_mul (f : Nat → Int) (c x : Int) : ∀ n, evn (fun i => f i * c) x n = evn f x n * c
  | 0 => by simp [evn]
  | n + 1 => by rw [evn, evn, evn_mul f c x n, Int.add_mul, Int.mul_right_comm]
theorem evn_shift (g : Nat → Int) (c x : Int) (k : Nat) : ∀ n, evn (fun i => if k ≤ i then c * g (i - k) else 0) x (k + n) = c * x ^ k * evn g x n
  | 0 => by
    have : ∀ m, m ≤ k → evn (fun i => if k ≤ i then c * g (i - k) else 0) x m = 0 := by
      intro m
      induction m with
      | zero => intro _; rfl
      | succ m ih => intro hm; rw [evn, ih (by omega), if_neg (by omega)]; simp
    rw [Nat.add_zero, this k (Nat.le_refl _)]
    simp [evn]
  | n + 1 => by
    rw [← Nat.add_assoc, evn, evn_shift g c x k n, evn, if_pos (by omega), show k + n - k = n by omega, Int.mul_add, Int.pow_add]
    congr 1
    rw [Int.mul_assoc, Int.mul_assoc, Int.mul_left_comm (g n)]
theorem foldr_evn (x : Int) : ∀ (xs : List Int), xs.foldr (fun c acc => acc * x + c) 0 = evn (at_ xs) x xs.length := by
  have key : ∀ (n : Nat) (xs : List Int) (z : Int), xs.length = n → xs.foldr (fun c acc => acc * x + c) z = evn (at_ xs) x n + z * x ^ n := by
    intro n
    induction n with
    | zero =>
      intro xs z h
      obtain rfl := List.eq_nil_of_length_eq_zero h
      simp [evn]
    | succ n ih =>
      intro xs z h
      rcases List.eq_nil_or_concat xs with rfl | ⟨ys, c, rfl⟩
      · simp at h
      · rw [List.concat_eq_append] at h ⊢
        have hy : ys.length = n := by simpa using h
        rw [List.foldr_append, List.foldr_cons, List.foldr_nil, ih ys _ hy, evn]
        have e1 : evn (at_ (ys ++ [c])) x n = evn (at_ ys) x n := evn_eq x n (fun i hi => by
          rw [at_lt (by simp; omega), at_lt (by omega), List.getElem_append_left (by omega)])
        have e2 : at_ (ys ++ [c]) n = c := by rw [at_lt (by simp; omega)]; simp [← hy]
        rw [e1, e2, Int.add_mul, Int.pow_succ, Int.mul_assoc, Int.mul_comm x]
        omega
  intro xs
  have := key xs.length xs 0 rfl
  simpa using this
theorem pat_foldr (xs : List Int) (x : Int) : pat xs x = xs.foldr (fun c acc => acc * x + c) 0 % 1009 := by
  induction xs with
  | nil => rfl
  | cons c xs ih =>
    have h1 : pat (c :: xs) x = (pat xs x * x + c) % 1009 := rfl
    rw [h1, ih, List.foldr_cons]
    have := mul_cong (a := xs.foldr (fun c acc => acc * x + c) 0 % 1009) (b := xs.foldr (fun c acc => acc * x + c) 0) x (by omega)
    omega
theorem pat_evn (xs : List Int) (x : Int) (n : Nat) (hn : xs.length ≤ n) : pat xs x = evn (at_ xs) x n % 1009 := by
  rw [pat_foldr, foldr_evn]
  have := evn_more (at_ xs) x xs.length (fun i hi => at_ge hi) (n - xs.length)
  rw [show xs.length + (n - xs.length) = n by omega] at this
  rw [this]
theorem pat_range (xs : List Int) (x : Int) : 0 ≤ pat xs x ∧ pat xs x ≤ 1008 := by
  rw [pat_foldr]
  omega
theorem pat_add (xs ys : List Int) (x : Int) : pat (padd xs ys) x = (pat xs x + pat ys x) % 1009 := by
  have hp := padd_length xs ys
  rw [pat_evn (padd xs ys) x (max xs.length ys.length) hp, pat_evn xs x (max xs.length ys.length) (by omega), pat_evn ys x (max xs.length ys.length) (by omega)]
  have h := evn_cong (f := at_ (padd xs ys)) (g := fun i => at_ xs i + at_ ys i) x (max xs.length ys.length) (fun i hi => by
    rw [padd, at_trim, tab_at _ _ _ hi]; omega)
  rw [evn_add] at h
  omega
theorem evn_conv (xs ys : List Int) (x : Int) (N : Nat) : ∀ k, k + ys.length ≤ N → evn (conv xs ys k) x N = evn (at_ xs) x k * evn (at_ ys) x ys.length
  | 0, _ => by
    have : ∀ n, evn (conv xs ys 0) x n = 0 := by
      intro n
      induction n with
      | zero => rfl
      | succ n ih => rw [evn, ih]; simp [conv]
    rw [this]
    simp [evn]
  | k + 1, h => by
    have e : evn (conv xs ys (k + 1)) x N = evn (conv xs ys k) x N + evn (fun i => if k ≤ i then at_ xs k * at_ ys (i - k) else 0) x N := by
      rw [← evn_add]
      exact evn_eq x N (fun i _ => rfl)
    have e2 : evn (fun i => if k ≤ i then at_ xs k * at_ ys (i - k) else 0) x N = at_ xs k * x ^ k * evn (at_ ys) x ys.length := by
      rw [← evn_shift]
      have := evn_more (fun i => if k ≤ i then at_ xs k * at_ ys (i - k) else 0) x (k + ys.length) (fun i hi => by
        rw [if_pos (by omega), at_ge (xs := ys) (by omega)]; simp) (N - (k + ys.length))
      rwa [show k + ys.length + (N - (k + ys.length)) = N by omega] at this
    rw [e, evn_conv xs ys x N k (by omega), e2, evn, Int.add_mul]
theorem pat_mul (xs ys : List Int) (x : Int) (hx : xs.length ≤ 64) (hy : ys.length ≤ 64) : pat (pmul xs ys) x = (pat xs x * pat ys x) % 1009 := by
  have hl : (pmul xs ys).length ≤ xs.length + ys.length := by
    rw [pmul, if_neg (by omega)]
    have := trim_length (tab (xs.length + ys.length) (conv xs ys xs.length))
    rwa [tab_length] at this
  rw [pat_evn (pmul xs ys) x (xs.length + ys.length) hl, pat_evn xs x xs.length (Nat.le_refl _), pat_evn ys x ys.length (Nat.le_refl _)]
  have h := evn_cong (f := at_ (pmul xs ys)) (g := conv xs ys xs.length) x (xs.length + ys.length) (fun i hi => by rw [at_pmul xs ys hx hy]; omega)
  rw [h, evn_conv xs ys x _ xs.length (Nat.le_refl _), Int.mul_emod]
theorem pat_scale (xs : List Int) (c x : Int) : pat (scale xs c) x = (pat xs x * c) % 1009 := by
  rw [pat_evn (scale xs c) x xs.length (by rw [scale_length]; exact Nat.le_refl _), pat_evn xs x xs.length (Nat.le_refl _)]
  have h := evn_cong (f := at_ (scale xs c)) (g := fun i => at_ xs i * c) x xs.length (fun i hi => by rw [scale_tab, tab_at _ _ _ hi]; omega)
  rw [evn_mul] at h
  rw [h]
  exact (mul_cong c (by omega)).symm
theorem pat_two (a x : Int) : pat [a, 1] x = (a + x) % 1009 := by
  have h : pat [a, 1] x = ((((0 * x + 1) % 1009) * x + a) % 1009) := rfl
  rw [h]
  simp
  omega
theorem pmul_two (xs : List Int) (a : Int) (h : xs.length ≤ 64) : (pmul xs [a, 1]).length ≤ xs.length + 2 := by
  rw [pmul, if_neg (by simp; omega)]
  have := trim_length (tab (xs.length + [a, 1].length) (conv xs [a, 1] xs.length))
  rw [tab_length] at this
  exact this
theorem tb_same (i : Int) : ∀ d j t b, t.length + 2 * d ≤ 64 → pat t (i + 1) = b % 1009 → pat (tb i d j t b).1 (i + 1) = (tb i d j t b).2 % 1009
  | 0, _, _, _, _, h => by rw [tb]; exact h
  | d + 1, j, t, b, hl, h => by
    rw [tb]
    split
    · exact tb_same i d (j + 1) t b (by omega) h
    · have := pmul_two t (-(j + 1)) (by omega)
      refine tb_same i d (j + 1) _ _ (by omega) ?_
      rw [pat_mul _ _ _ (by omega) (by simp), pat_two, h, show (-(j + 1) + (i + 1)) = i - j by omega, ← Int.mul_emod, Int.emod_emod_of_dvd _ (Int.dvd_refl _)]
theorem tb_keep (i x : Int) : ∀ d j t b, t.length + 2 * d ≤ 64 → pat t x = 0 → pat (tb i d j t b).1 x = 0
  | 0, _, _, _, _, h => by rw [tb]; exact h
  | d + 1, j, t, b, hl, h => by
    rw [tb]
    split
    · exact tb_keep i x d (j + 1) t b (by omega) h
    · have := pmul_two t (-(j + 1)) (by omega)
      refine tb_keep i x d (j + 1) _ _ (by omega) ?_
      rw [pat_mul _ _ _ (by omega) (by simp), h]
      simp
theorem tb_zero (i m : Int) (hne : m ≠ i) : ∀ (d : Nat) (j : Int) (t : List Int) (b : Int), t.length + 2 * d ≤ 64 → j ≤ m → m < j + (d : Int) → pat (tb i d j t b).1 (m + 1) = 0
  | 0, _, _, _, _, h1, h2 => by omega
  | d + 1, j, t, b, hl, h1, h2 => by
    rw [tb]
    split
    · exact tb_zero i m hne d (j + 1) t b (by omega) (by omega) (by omega)
    · have := pmul_two t (-(j + 1)) (by omega)
      by_cases hj : m = j
      · refine tb_keep i (m + 1) d (j + 1) _ _ (by omega) ?_
        rw [pat_mul _ _ _ (by omega) (by simp), pat_two, hj, show (-(j + 1) + (j + 1)) = 0 by omega]
        simp
      · exact tb_zero i m hne d (j + 1) _ _ (by omega) (by omega) (by omega)
theorem mul_ne (b c : Int) (hb : b % 1009 ≠ 0) (hc : c % 1009 ≠ 0) : (b * c) % 1009 ≠ 0 := by
  intro h
  have h1 := sinv_right (c % 1009) (by omega) (by omega)
  apply hb
  have h2 : ((b * c) * sinv (c % 1009)) % 1009 = 0 := by rw [Int.mul_emod, h]; simp
  have h3 : (c * sinv (c % 1009)) % 1009 = 1 := by
    rw [Int.mul_emod] at h1 ⊢
    rwa [Int.emod_emod_of_dvd _ (Int.dvd_refl _)] at h1
  rw [Int.mul_assoc, Int.mul_emod, h3] at h2
  omega
theorem tb_ne (i : Int) : ∀ (d : Nat) (j : Int) (t : List Int) (b : Int), b % 1009 ≠ 0 → 0 ≤ i → i ≤ 16 → 0 ≤ j → j + (d : Int) ≤ 16 → (tb i d j t b).2 % 1009 ≠ 0
  | 0, _, _, _, h, _, _, _, _ => by rw [tb]; exact h
  | d + 1, j, t, b, h, h0, h1, h2, h3 => by
    rw [tb]
    split
    · exact tb_ne i d (j + 1) t b h h0 h1 (by omega) (by omega)
    · refine tb_ne i d (j + 1) _ _ ?_ h0 h1 (by omega) (by omega)
      rw [Int.emod_emod_of_dvd _ (Int.dvd_refl _)]
      exact mul_ne b (i - j) h (by omega)
theorem sinv_mod (b : Int) (h : b % 1009 ≠ 0) (h0 : 0 ≤ b) (h1 : b ≤ 1008) : (b * sinv b) % 1009 = 1 := sinv_right b (by omega) h1
theorem tb_range (i : Int) : ∀ d j t b, 0 ≤ b → b ≤ 1008 → 0 ≤ (tb i d j t b).2 ∧ (tb i d j t b).2 ≤ 1008
  | 0, _, _, _, h0, h1 => by rw [tb]; exact ⟨h0, h1⟩
  | d + 1, j, t, b, h0, h1 => by
    rw [tb]
    split
    · exact tb_range i d (j + 1) t b h0 h1
    · exact tb_range i d (j + 1) _ _ (by omega) (by omega)
theorem thr_at (xs : List Int) (hn : xs.length ≤ 16) (m : Nat) (hm : m < xs.length) : ∀ d i out, i + d = xs.length →
    pat (thr xs d i out) ((m : Int) + 1) = (pat out ((m : Int) + 1) + if i ≤ m then at_ xs m else 0) % 1009
  | 0, i, out, h => by
    have := pat_range out ((m : Int) + 1)
    rw [thr, if_neg (by omega)]
    omega
  | d + 1, i, out, h => by
    have hr := tb_range (i : Int) xs.length 0 [1] 1 (by omega) (by omega)
    have hz := tb_ne (i : Int) xs.length 0 [1] 1 (by decide) (by omega) (by omega) (by omega) (by omega)
    have hi := sinv_mod _ hz hr.1 hr.2
    have hs := tb_same (i : Int) xs.length 0 [1] 1 (by simp; omega) (by simp [pat])
    rw [thr, thr_at xs hn m hm d (i + 1) _ (by omega), pat_add, pat_scale]
    by_cases c : m = i
    · subst c
      rw [hs, if_neg (by omega), if_pos (Nat.le_refl _)]
      generalize (tb (m : Int) xs.length 0 [1] 1).2 = b at *
      have : ((b % 1009) * ((at_ xs m * sinv b) % 1009)) % 1009 = at_ xs m % 1009 := by
        rw [← Int.mul_emod, Int.mul_left_comm, Int.mul_emod, hi]
        omega
      omega
    · have := tb_zero (i : Int) (m : Int) (by omega) xs.length 0 [1] 1 (by simp; omega) (by omega) (by omega)
      rw [this]
      by_cases c2 : i ≤ m
      · rw [if_pos c2, if_pos (by omega)]; simp
      · rw [if_neg c2, if_neg (by omega)]; simp
theorem pthrough_at (xs : List Int) (hn : xs.length ≤ 16) (m : Nat) (hm : m < xs.length) : pat (pthrough xs) ((m : Int) + 1) = at_ xs m % 1009 := by
  rw [pthrough, if_neg (by omega), thr_at xs hn m hm xs.length 0 [] (by omega), if_pos (Nat.zero_le _)]
  have : pat [] ((m : Int) + 1) = 0 := rfl
  omega
end Go.Proofs.Ytcnejiflpioaiaa.Poly
end
section
set_option linter.unusedVariables false
set_option linter.unusedSimpArgs false
namespace Go.Proofs.Ytcnejiflpioaiaa.Poly
open Go.RowKit Go.Proofs.Ytcnejiflpioaiaa.Pf Go.Proofs.YtcnejiflpioaiaaW.PrintWords Go.Proofs.Ytcnejiflpioaiaa.Ints
set_option maxRecDepth 4000
theorem pmul_len (xs ys : List Int) (h : 0 < xs.length + ys.length) : (pmul xs ys).length ≤ xs.length + ys.length - 1 := by
  unfold pmul
  split
  · simp
  · rw [trim_short xs ys h]
    have := trim_length (tab (xs.length + ys.length - 1) (conv xs ys xs.length))
    rwa [tab_length] at this
theorem tb_len (i : Int) : ∀ d j t b, (tb i d j t b).1.length ≤ t.length + d - (if j ≤ i ∧ i < j + (d : Int) then 1 else 0)
  | 0, j, t, b => by rw [tb, if_neg (by omega)]; exact Nat.le_refl _
  | d + 1, j, t, b => by
    rw [tb]
    split
    · rename_i h
      have := tb_len i d (j + 1) t b
      rw [if_neg (by omega)] at this
      rw [if_pos (by omega)]
      omega
    · rename_i h
      have h1 := tb_len i d (j + 1) (pmul t [-(j + 1), 1]) ((b * (i - j)) % 1009)
      have h2 := pmul_len t [-(j + 1), 1] (by simp)
      have h3 : [-(j + 1), 1].length = 2 := rfl
      rw [h3] at h2
      by_cases c : j ≤ i ∧ i < j + ((d + 1 : Nat) : Int)
      · rw [if_pos c]
        rw [if_pos (by omega)] at h1
        omega
      · rw [if_neg c]
        split at h1 <;> omega
theorem thr_len (xs : List Int) (n : Nat) (hn : xs.length ≤ n) : ∀ d i out, i + d = xs.length → out.length ≤ n → (thr xs d i out).length ≤ n
  | 0, _, _, _, h => h
  | d + 1, i, out, h, ho => by
    refine thr_len xs n hn d (i + 1) _ (by omega) ?_
    have h1 := padd_length out (scale (tb (i : Int) xs.length 0 [1] 1).1 ((at_ xs i * sinv (tb (i : Int) xs.length 0 [1] 1).2) % 1009))
    have h2 := tb_len (i : Int) xs.length 0 [1] 1
    rw [if_pos (by omega)] at h2
    rw [scale_length] at h1
    have h3 : [(1 : Int)].length = 1 := rfl
    omega
theorem pthrough_len (xs : List Int) : (pthrough xs).length ≤ xs.length := by
  unfold pthrough
  split
  · simp
  · exact thr_len xs xs.length (Nat.le_refl _) xs.length 0 [] (by omega) (by simp)
theorem pat_trim (xs : List Int) (x : Int) : pat (trim xs) x = pat xs x := by
  rw [pat_evn (trim xs) x xs.length (trim_length xs), pat_evn xs x xs.length (Nat.le_refl _)]
  exact evn_cong x xs.length (fun i _ => by rw [at_trim]; omega)
theorem pdivide_len (xs ys : List Int) : (pdivide xs ys).1.length ≤ xs.length + 1 - (trim ys).length := by
  have l1 := trim_length xs
  unfold pdivide
  split
  · simp
  · split
    · simp
    · have h := elim_length (trim ys) (sinv (at_ (trim ys) ((trim ys).length - 1))) ((trim xs).length - (trim ys).length + 1) (trim xs) (tab ((trim xs).length - (trim ys).length + 1) (fun _ => 0))
      rw [tab_length] at h
      have t1 := trim_length (elim (trim ys) (sinv (at_ (trim ys) ((trim ys).length - 1))) ((trim xs).length - (trim ys).length + 1) (trim xs) (tab ((trim xs).length - (trim ys).length + 1) (fun _ => 0))).2
      dsimp only
      omega
theorem left_trim (xs ys : List Int) : (pdivide xs ys).2 = [] ∨ at_ (pdivide xs ys).2 ((pdivide xs ys).2.length - 1) % 1009 ≠ 0 := by
  have hr : ∀ zs : List Int, Red zs → cut zs = [] ∨ at_ (cut zs) ((cut zs).length - 1) % 1009 ≠ 0 := by
    intro zs hz
    rcases cut_last zs with h | h
    · exact Or.inl h
    · refine Or.inr ?_
      rw [at_cut] at h ⊢
      have := hz ((cut zs).length - 1)
      omega
  unfold pdivide
  split
  · exact Or.inl rfl
  · split
    · have := hr (trim xs) (trim_red xs)
      rw [cut_trim] at this
      exact this
    · exact hr _ (elim_red _ _ _ _ _ (trim_red xs))
theorem divide_at (xs ys : List Int) (x : Int) (hx : xs.length ≤ 63) (hy : ys.length ≤ 64) : pat xs x = (pat (pdivide xs ys).1 x * pat ys x + pat (pdivide xs ys).2 x) % 1009 := by
  have h := divide_back xs ys (by omega) hy
  have h1 := pdivide_len xs ys
  have h2 := trim_length ys
  rw [← pat_trim xs, ← h, pat_add, pat_mul _ _ _ (by omega) (by omega), pat_trim ys]
  omega
def syn (a : Int) : List Int → List Int
  | [] => []
  | [_] => []
  | _ :: d :: cs => pat (d :: cs) a :: syn a (d :: cs)
theorem syn_len (a : Int) : ∀ xs, (syn a xs).length = xs.length - 1
  | [] => rfl
  | [_] => rfl
  | _ :: d :: cs => by
    have := syn_len a (d :: cs)
    simp only [syn, List.length_cons] at this ⊢
    omega
theorem pat_cons (c : Int) (cs : List Int) (x : Int) : pat (c :: cs) x = (pat cs x * x + c) % 1009 := rfl
theorem syn_at (a x : Int) : ∀ xs, pat xs x = (pat xs a + (x - a) * pat (syn a xs) x) % 1009
  | [] => by simp [pat, syn]
  | [c] => by simp [pat, syn]
  | c :: d :: cs => by
    have ih := syn_at a x (d :: cs)
    have e : pat (syn a (c :: d :: cs)) x = (pat (syn a (d :: cs)) x * x + pat (d :: cs) a) % 1009 := rfl
    rw [pat_cons c, pat_cons c (d :: cs) a, e]
    generalize pat (d :: cs) x = u at ih ⊢
    generalize pat (d :: cs) a = v at ih ⊢
    generalize pat (syn a (d :: cs)) x = s at ih ⊢
    have h1 : (u * x + c) % 1009 = ((v + (x - a) * s) * x + c) % 1009 := by
      have := mul_cong (a := u) (b := v + (x - a) * s) x (by rw [ih]; omega)
      omega
    have h2 : ((x - a) * ((s * x + v) % 1009)) % 1009 = ((x - a) * (s * x + v)) % 1009 := by
      rw [Int.mul_emod, Int.emod_emod_of_dvd _ (Int.dvd_refl _), ← Int.mul_emod]
    have h3 : (v + (x - a) * s) * x + c = (v * a + c) + (x - a) * (s * x + v) := by
      rw [Int.add_mul, Int.mul_add (x - a), Int.sub_mul x a v, Int.mul_assoc (x - a) s x, Int.mul_comm v x, Int.mul_comm v a]
      omega
    rw [h1, h3]
    omega
theorem syn_zero (a : Int) : ∀ xs, (∀ i, at_ (syn a xs) i % 1009 = 0) → pat xs a = 0 → ∀ i, at_ xs i % 1009 = 0
  | [], _, _, i => by simp [at_]
  | [c], _, h, i => by
    have h' : (0 * a + c) % 1009 = 0 := h
    cases i with
    | zero => simpa [at_] using h'
    | succ i => simp [at_]
  | c :: d :: cs, h, hp, i => by
    have e0 := h 0
    have e0' : pat (d :: cs) a % 1009 = 0 := e0
    have r := pat_range (d :: cs) a
    have e1 : pat (d :: cs) a = 0 := by omega
    rw [pat_cons, e1] at hp
    cases i with
    | zero => simpa [at_] using hp
    | succ i =>
      have := syn_zero a (d :: cs) (fun j => h (j + 1)) e1 i
      simpa [at_] using this
theorem vanish (s : Int) : ∀ (n : Nat) (xs : List Int), n ≤ 20 → xs.length ≤ n → (∀ i : Nat, i < n → pat xs (s + (i : Int)) = 0) → ∀ i, at_ xs i % 1009 = 0
  | 0, xs, _, hl, _ => by
    intro i
    rw [at_ge (by omega)]; rfl
  | n + 1, xs, hn, hl, h => by
    refine syn_zero (s + (n : Int)) xs ?_ (h n (by omega))
    refine vanish s n _ (by omega) (by rw [syn_len]; omega) (fun i hi => ?_)
    have e := syn_at (s + (n : Int)) (s + (i : Int)) xs
    rw [h i (by omega), h n (by omega)] at e
    have r := pat_range (syn (s + (n : Int)) xs) (s + (i : Int))
    by_cases c : pat (syn (s + (n : Int)) xs) (s + (i : Int)) % 1009 = 0
    · omega
    · have := mul_ne (s + (i : Int) - (s + (n : Int))) (pat (syn (s + (n : Int)) xs) (s + (i : Int))) (by omega) c
      omega
theorem zero_all : ∀ m : Fin 17, (trim (pzero (m.val : Int))).length = m.val + 1 ∧ (pzero (m.val : Int)).length = m.val + 1 ∧ ∀ i : Fin 17, i.val < m.val → pat (pzero (m.val : Int)) ((i.val : Int) + 1) = 0 := by decide +kernel
theorem zero_len (m : Nat) (h : m ≤ 16) : (trim (pzero (m : Int))).length = m + 1 ∧ (pzero (m : Int)).length = m + 1 := ⟨(zero_all ⟨m, by omega⟩).1, (zero_all ⟨m, by omega⟩).2.1⟩
theorem zero_at (m : Nat) (h : m ≤ 16) (i : Nat) (hi : i < m) : pat (pzero (m : Int)) ((i : Int) + 1) = 0 := (zero_all ⟨m, by omega⟩).2.2 ⟨i, by omega⟩ hi
theorem leaves_none (xs : List Int) (hx : xs.length ≤ 63) (m : Nat) (h : m ≤ 16) : (pdivide xs (pzero (m : Int))).2 = [] ↔ ∀ i, i < m → pat xs ((i : Int) + 1) = 0 := by
  obtain ⟨z1, z2⟩ := zero_len m h
  constructor
  · intro e i hi
    rw [divide_at xs (pzero (m : Int)) _ hx (by omega), e, zero_at m h i hi]
    simp [pat]
  · intro e
    rcases left_trim xs (pzero (m : Int)) with hl | hl
    · exact hl
    · have hd := divide_left xs (pzero (m : Int)) (by omega) (by omega)
      have := vanish 1 m (pdivide xs (pzero (m : Int))).2 (by omega) (by omega) (fun i hi => by
        have e1 := divide_at xs (pzero (m : Int)) ((i : Int) + 1) hx (by omega)
        rw [e i hi, zero_at m h i hi] at e1
        have r := pat_range (pdivide xs (pzero (m : Int))).2 (1 + (i : Int))
        rw [show (i : Int) + 1 = 1 + (i : Int) by omega] at e1
        omega) ((pdivide xs (pzero (m : Int))).2.length - 1)
      exact absurd this hl
end Go.Proofs.Ytcnejiflpioaiaa.Poly
end
section
namespace Go.Proofs.Ytcnejiflpioaiaa.Pf
open Go.RowKit Go.Proofs.YtcnejiflpioaiaaW.PrintWords Go.Proofs.YtcnejiflpioaiaaW.PrintLast Go.Proofs.YtcnejiflpioaiaaW.PrintMore
attribute [local go_sem] max2_int min2_int max_two min_two max_three min_three max_four min_four   -- for this text's walks alone
set_option linter.unusedVariables false
set_option linter.unusedSimpArgs false







def laws_eqRow.f (k : Nat) (l0_0 : List Int) (l0_1 : List Int) (l0_2 : List Int) (l1_0 : List Int) (l1_1 : List Int) (l1_2 : List Int) : Option (Bool) := (laws_eqIntS.f k l0_0 l1_0).bind fun t833 => (if t833 = true then ((laws_eqIntS.f k l0_1 l1_1).bind fun t834 => (if t834 = true then ((laws_eqIntS.f k l0_2 l1_2).bind fun t835 => (if t835 = true then (some true) else (some false))) else (some false))) else (some false))
def laws_eqRowS.l0 : Nat → List (S40) → List (S40) → Int → Option (Bool)
 | 0, _, _, _ => none
 | k + 1, x0, x1, x5 => if x5 < (x0.length : Int) then (if 0 ≤ x5 then (if x5 < (x1.length : Int) then ((laws_eqRow.f k ((rd_T40 x0 x5).f0) ((rd_T40 x0 x5).f1) ((rd_T40 x0 x5).f2) ((rd_T40 x1 x5).f0) ((rd_T40 x1 x5).f1) ((rd_T40 x1 x5).f2)).bind fun t838 => (if t838 = true then (laws_eqRowS.l0 k x0 x1 (wrap64 (x5 + 1))) else (some false))) else (none)) else (none)) else (some true)
def laws_eqRowS.T6 : Bool × List (List Nat × List Nat) := (true, [([], []), ([], []), ([0, 1], [0, 1]), ([2], [2]), ([], []), ([], []), ([4, 5], [4, 5]), ([6], [6]), ([3, 7], [3, 7]), ([8], [8])])
def laws_eqRowS.B6 : List Nat := [0, 0, 3, 7, 0, 0, 48, 112, 255, 511]
theorem laws_eqRowS.tab6 : rtab .any (opsOf Try.f84 6) = laws_eqRowS.T6 := by kernel_rfl
theorem laws_eqRowS.bits6 : waitsOk laws_eqRowS.T6.2 laws_eqRowS.B6 = true := by kernel_rfl

def spec_l13Wide.l0 : Nat → List Int → Int → Int → Option (Bool)
 | 0, _, _, _ => none
 | k + 1, x0, x1, x5 => if x5 < (x0.length : Int) then (if 0 ≤ x5 then ((spec_l01In.f (rd x0 x5) 0 1008).bind fun t737 => (if t737 = true then (spec_l13Wide.l0 k x0 x1 (wrap64 (x5 + 1))) else (some false))) else (none)) else (some ((x0.length : Int) == x1))
def spec_l13Wide.f (k : Nat) (l0 : List Int) (a1 : Int) : Option (Bool) := spec_l13Wide.l0 k l0 a1 0
end Go.Proofs.Ytcnejiflpioaiaa.Pf
end
section
namespace Go.Proofs.Ytcnejiflpioaiaa.Pf
open Go.RowKit Go.Proofs.YtcnejiflpioaiaaW.PrintWords Go.Proofs.YtcnejiflpioaiaaW.PrintLast Go.Proofs.YtcnejiflpioaiaaW.PrintMore
attribute [local go_sem] max2_int min2_int max_two min_two max_three min_three max_four min_four   -- for this text's walks alone
set_option linter.unusedVariables false
set_option linter.unusedSimpArgs false
mutual
def spec_SystemOk.j0 : Nat → Bool → Int → Int → List (S40) → Option (Bool)
 | 0, _, _, _, _ => none
 | k + 1, x23, x739000, x739001, x739002 => if x23 = true then (some false) else (spec_SystemOk.l0 k 0 x739000 x739001 x739002)
def spec_SystemOk.l0 : Nat → Int → Int → Int → List (S40) → Option (Bool)
 | 0, _, _, _, _ => none
 | k + 1, x3, x739000, x739001, x739002 => if x3 < (x739002.length : Int) then (if 0 ≤ x3 then ((spec_l13Wide.f k ((rd_T40 x739002 x3).f0) x739000).bind fun t743 => (if t743 = true then ((spec_l13Wide.f k ((rd_T40 x739002 x3).f1) x739000).bind fun t745 => (if t745 = true then ((spec_l13Wide.f k ((rd_T40 x739002 x3).f2) x739000).bind fun t747 => (if t747 = true then (spec_SystemOk.l0 k (wrap64 (x3 + 1)) x739000 x739001 x739002) else (some false))) else (some false))) else (some false))) else (none)) else (some true)
end
def spec_SystemOk.f (k : Nat) (a0_0 : Int) (a0_1 : Int) (l0_2 : List (S40)) : Option (Bool) := (spec_l01In.f a0_0 1 20).bind fun t739 => (if t739 = true then ((spec_l01In.f a0_1 0 (wrap64 (a0_0 - 1))).bind fun t740 => (if t740 = true then ((spec_l01In.f (l0_2.length : Int) 1 16).bind fun t741 => (spec_SystemOk.j0 k (!t741) a0_0 a0_1 l0_2)) else (spec_SystemOk.j0 k true a0_0 a0_1 l0_2))) else (spec_SystemOk.j0 k true a0_0 a0_1 l0_2))
def spec_SystemOk.T6 : Bool × List (List Nat × List Nat) := (true, [([], []), ([0], [0]), ([], []), ([1, 2], [1, 2]), ([3], [3]), ([4], [4]), ([], []), ([6], [6]), ([5, 7], [5, 7]), ([8], [8]), ([9, 8], [9]), ([10], [10]), ([11, 10], [10, 11]), ([10], [10]), ([12, 13, 10], [10, 12, 13]), ([14, 10], [10, 14]), ([15, 10], [10, 15]), ([10], [10]), ([17, 10], [10, 17]), ([16, 18, 10, 10], [10, 16, 18]), ([19, 10], [10, 19]), ([10, 20], [10, 20]), ([21, 19], [21]), ([22], [22]), ([23, 22], [22, 23]), ([22], [22]), ([24, 25, 22], [22, 24, 25]), ([26, 22], [22, 26]), ([27, 22], [22, 27]), ([22], [22]), ([29, 22], [22, 29]), ([28, 30, 22, 22], [22, 28, 30]), ([31, 22], [22, 31]), ([22, 32], [22, 32])])
def spec_SystemOk.B6 : List Nat := [0, 1, 0, 7, 15, 31, 0, 64, 255, 511, 1023, 2047, 4095, 2047, 16383, 32767, 65535, 2047, 133119, 524287, 1048575, 2097151, 4194303, 8388607, 16777215, 8388607, 67108863, 134217727, 268435455, 8388607, 545259519, 2147483647, 4294967295, 8589934591]
theorem spec_SystemOk.tab6 : rtab .any (opsOf Try.f81 6) = spec_SystemOk.T6 := by kernel_rfl
theorem spec_SystemOk.bits6 : waitsOk spec_SystemOk.T6.2 spec_SystemOk.B6 = true := by kernel_rfl
end Go.Proofs.Ytcnejiflpioaiaa.Pf
end
section
set_option linter.unusedVariables false
set_option linter.unusedSimpArgs false
namespace Go.Proofs.Ytcnejiflpioaiaa.Sys
open Go.RowKit Go.Proofs.Ytcnejiflpioaiaa.Pf Go.Proofs.YtcnejiflpioaiaaW.PrintWords Go.Proofs.Ytcnejiflpioaiaa.Ints
set_option maxRecDepth 4000
abbrev RT := S40
abbrev RA := S92
def conv (x : RA) : RT := ⟨x.f0, x.f1, x.f2⟩
def fitsT (x : RT) : Prop := x.f0.length ≤ 1048576 ∧ x.f1.length ≤ 1048576 ∧ x.f2.length ≤ 1048576
theorem rdT {xs : List RT} {i : Nat} (h : i < xs.length) : rd_T40 xs (i : Int) = xs[i] := by
  unfold rd_T40
  rw [Int.toNat_natCast, List.getD_eq_getElem?_getD, List.getElem?_eq_getElem h]; rfl
theorem eqRow_same (x : RT) (h : fitsT x) (k : Nat) (hk : 1048577 < k) : laws_eqRow.f k x.f0 x.f1 x.f2 x.f0 x.f1 x.f2 = some true := by
  obtain ⟨h0, h1, h2⟩ := h
  unfold laws_eqRow.f
  rw [eqIntS_same _ (by omega) k (by omega), eqIntS_same _ (by omega) k (by omega), eqIntS_same _ (by omega) k (by omega)]
  rfl
theorem eqRowS_l0 (xs : List RT) (hx : ∀ y ∈ xs, fitsT y) (hn : xs.length ≤ 1048576) (d : Nat) : ∀ (i k : Nat), i + d = xs.length → d + 1048578 < k → laws_eqRowS.l0 k xs xs (i : Int) = some true := by
  induction d with
  | zero =>
    intro i k hi hk
    obtain ⟨k, rfl⟩ : ∃ m, k = m + 1 := ⟨k - 1, by omega⟩
    simp only [laws_eqRowS.l0]
    rw [if_neg (by omega)]
  | succ d ih =>
    intro i k hi hk
    obtain ⟨k, rfl⟩ : ∃ m, k = m + 1 := ⟨k - 1, by omega⟩
    have hlt : i < xs.length := by omega
    simp only [laws_eqRowS.l0]
    rw [if_pos (by omega), if_pos (by omega), if_pos (by omega), rdT hlt, eqRow_same _ (hx _ (List.getElem_mem hlt)) k (by omega)]
    simp only [Option.bind_some]
    rw [if_pos trivial, wrap_in (by omega) (by omega), show (i : Int) + 1 = ((i + 1 : Nat) : Int) by omega]
    exact ih (i + 1) k (by omega) (by omega)
def inb (x : Int) : Bool := decide (0 ≤ x) && decide (x ≤ 1008)
def wide (xs : List Int) (n : Int) : Bool := xs.all inb && ((xs.length : Int) == n)
theorem rdI {xs : List Int} {i : Nat} (h : i < xs.length) : rd xs (i : Int) = xs[i] := by
  unfold rd
  rw [Int.toNat_natCast, List.getD_eq_getElem?_getD, List.getElem?_eq_getElem h]; rfl
theorem l01In_f (x : Int) : spec_l01In.f x 0 1008 = some (inb x) := by
  unfold spec_l01In.f inb
  by_cases h : x ≥ 0
  · rw [if_pos h]; simp [show (0 : Int) ≤ x from h]
  · rw [if_neg h]; simp [show ¬ (0 : Int) ≤ x from h]
theorem l13Wide_l0 (xs : List Int) (n : Int) (hn : xs.length ≤ 1048576) (d : Nat) : ∀ (i k : Nat), i + d = xs.length → d < k → spec_l13Wide.l0 k xs n (i : Int) = some ((xs.drop i).all inb && ((xs.length : Int) == n)) := by
  induction d with
  | zero =>
    intro i k hi hk
    obtain ⟨k, rfl⟩ : ∃ m, k = m + 1 := ⟨k - 1, by omega⟩
    simp only [spec_l13Wide.l0]
    rw [if_neg (by omega), List.drop_of_length_le (by omega)]; simp
  | succ d ih =>
    intro i k hi hk
    obtain ⟨k, rfl⟩ : ∃ m, k = m + 1 := ⟨k - 1, by omega⟩
    have hlt : i < xs.length := by omega
    simp only [spec_l13Wide.l0]
    rw [if_pos (by omega), if_pos (by omega), rdI hlt, l01In_f, List.drop_eq_getElem_cons hlt, List.all_cons]
    simp only [Option.bind_some]
    cases hb : inb xs[i]
    · rw [if_neg (by decide)]; simp
    · rw [if_pos rfl, wrap_in (by omega) (by omega), show (i : Int) + 1 = ((i + 1 : Nat) : Int) by omega, ih (i + 1) k (by omega) (by omega)]; simp
theorem l13Wide_f (xs : List Int) (n : Int) (hn : xs.length ≤ 1048576) (k : Nat) (hk : 1048577 < k) : spec_l13Wide.f k xs n = some (wide xs n) := by
  unfold spec_l13Wide.f
  rw [show (0 : Int) = ((0 : Nat) : Int) from rfl, l13Wide_l0 xs n hn xs.length 0 k (by omega) (by omega)]; rfl
theorem isScalar_f (x : Int) : impl_isScalar.f x = some (inb x) := by
  unfold impl_isScalar.f inb
  by_cases h : x ≥ 0
  · rw [if_pos h]
    have : decide (x < 1009) = decide (x ≤ 1008) := by rw [decide_eq_decide]; omega
    rw [this]; simp [show (0 : Int) ≤ x from h]
  · rw [if_neg h]; simp [show ¬ (0 : Int) ≤ x from h]
theorem areScalars_l0 (xs : List Int) (hn : xs.length ≤ 1048576) (d : Nat) : ∀ (i k : Nat), i + d = xs.length → d < k → impl_areScalars.l0 k xs (xs.length : Int) (i : Int) = some ((xs.drop i).all inb) := by
  induction d with
  | zero =>
    intro i k hi hk
    obtain ⟨k, rfl⟩ : ∃ m, k = m + 1 := ⟨k - 1, by omega⟩
    simp only [impl_areScalars.l0]
    rw [if_neg (by omega), List.drop_of_length_le (by omega)]; simp
  | succ d ih =>
    intro i k hi hk
    obtain ⟨k, rfl⟩ : ∃ m, k = m + 1 := ⟨k - 1, by omega⟩
    have hlt : i < xs.length := by omega
    simp only [impl_areScalars.l0]
    rw [if_pos (by omega), if_pos (by omega), if_pos (by omega), rdI hlt, isScalar_f, List.drop_eq_getElem_cons hlt, List.all_cons]
    simp only [Option.bind_some]
    cases hb : inb xs[i]
    · rw [if_neg (by decide)]; simp
    · rw [if_pos rfl, wrap_in (by omega) (by omega), show (i : Int) + 1 = ((i + 1 : Nat) : Int) by omega, ih (i + 1) k (by omega) (by omega)]; simp
theorem areScalars_f (xs : List Int) (hn : xs.length ≤ 1048576) (k : Nat) (hk : 1048577 < k) : impl_areScalars.f k xs = some (xs.all inb) := by
  unfold impl_areScalars.f
  have h := areScalars_l0 xs hn xs.length 0 k (by omega) (by omega)
  rw [List.drop_zero] at h
  exact h
def rowOk (n : Int) (x : RT) : Bool := wide x.f0 n && wide x.f1 n && wide x.f2 n
def sysOk (a b : Int) (xs : List RT) : Bool := decide (1 ≤ a) && decide (a ≤ 20) && decide (0 ≤ b) && decide (b ≤ a - 1) && decide (1 ≤ xs.length) && decide (xs.length ≤ 16) && xs.all (rowOk a)
theorem specOk_l0 (a b : Int) (xs : List RT) (hx : ∀ y ∈ xs, fitsT y) (hn : xs.length ≤ 1048576) (d : Nat) : ∀ (i k : Nat), i + d = xs.length → d + 1048578 < k →
    spec_SystemOk.l0 k (i : Int) a b xs = some ((xs.drop i).all (rowOk a)) := by
  induction d with
  | zero =>
    intro i k hi hk
    obtain ⟨k, rfl⟩ : ∃ m, k = m + 1 := ⟨k - 1, by omega⟩
    simp only [spec_SystemOk.l0]
    rw [if_neg (by omega), List.drop_of_length_le (by omega)]; simp
  | succ d ih =>
    intro i k hi hk
    obtain ⟨k, rfl⟩ : ∃ m, k = m + 1 := ⟨k - 1, by omega⟩
    have hlt : i < xs.length := by omega
    obtain ⟨q0, q1, q2⟩ := hx xs[i] (List.getElem_mem hlt)
    simp only [spec_SystemOk.l0]
    rw [if_pos (by omega), if_pos (by omega), rdT hlt, l13Wide_f _ _ q0 k (by omega), l13Wide_f _ _ q1 k (by omega), l13Wide_f _ _ q2 k (by omega), List.drop_eq_getElem_cons hlt, List.all_cons]
    simp only [Option.bind_some]
    rw [wrap_in (by omega) (by omega), show (i : Int) + 1 = ((i + 1 : Nat) : Int) by omega, ih (i + 1) k (by omega) (by omega)]
    unfold rowOk
    cases wide xs[i].f0 a <;> cases wide xs[i].f1 a <;> cases wide xs[i].f2 a <;> simp
theorem specOk_f (a b : Int) (xs : List RT) (ha : -9223372036854775808 ≤ a) (hx : ∀ y ∈ xs, fitsT y) (hn : xs.length ≤ 1048576) (k : Nat) (hk : 2097156 < k) : spec_SystemOk.f k a b xs = some (sysOk a b xs) := by
  obtain ⟨k, rfl⟩ : ∃ m, k = m + 1 := ⟨k - 1, by omega⟩
  have h0 := specOk_l0 a b xs hx hn xs.length 0 k (by omega) (by omega)
  rw [List.drop_zero, Int.ofNat_zero] at h0
  unfold spec_SystemOk.f spec_l01In.f sysOk
  by_cases c1 : a ≥ 1
  · rw [if_pos c1, decide_eq_true (show 1 ≤ a from c1)]
    simp only [Option.bind_some]
    by_cases c2 : a ≤ 20
    · rw [decide_eq_true c2, if_pos rfl, wrap_in (by omega) (by omega)]
      by_cases c3 : b ≥ 0
      · rw [if_pos c3, decide_eq_true (show 0 ≤ b from c3)]
        simp only [Option.bind_some]
        by_cases c4 : b ≤ a - 1
        · rw [decide_eq_true c4, if_pos rfl]
          by_cases c5 : 1 ≤ xs.length
          · rw [if_pos (by omega), decide_eq_true c5]
            simp only [Option.bind_some, spec_SystemOk.j0]
            by_cases c6 : xs.length ≤ 16
            · rw [decide_eq_true (show (xs.length : Int) ≤ 16 by omega), decide_eq_true c6, if_neg (by decide), h0]; simp
            · rw [decide_eq_false (show ¬ (xs.length : Int) ≤ 16 by omega), decide_eq_false c6, if_pos (by decide)]; simp
          · rw [if_neg (by omega), decide_eq_false c5]
            simp [spec_SystemOk.j0]
        · rw [decide_eq_false c4, if_neg (by decide)]; simp [spec_SystemOk.j0]
      · rw [if_neg c3, decide_eq_false (show ¬ 0 ≤ b from c3)]; simp [spec_SystemOk.j0]
    · rw [decide_eq_false c2, if_neg (by decide)]; simp [spec_SystemOk.j0]
  · rw [if_neg c1, decide_eq_false (show ¬ 1 ≤ a from c1)]; simp [spec_SystemOk.j0]
theorem implOk_l0 (a b : Int) (xs zs : List RT) (hx : ∀ y ∈ xs, fitsT y) (hn : xs.length ≤ 1048576) (d : Nat) : ∀ (i k : Nat), i + d = xs.length → 3 * d + 1048590 < k →
    impl_SystemOk.l0 k xs (xs.length : Int) (i : Int) a b zs = some ((xs.drop i).all (rowOk a)) := by
  induction d with
  | zero =>
    intro i k hi hk
    obtain ⟨k, rfl⟩ : ∃ m, k = m + 1 := ⟨k - 1, by omega⟩
    simp only [impl_SystemOk.l0]
    rw [if_neg (by omega), List.drop_of_length_le (by omega)]; simp
  | succ d ih =>
    intro i k hi hk
    obtain ⟨k, rfl⟩ : ∃ m, k = m + 3 := ⟨k - 3, by omega⟩
    have hlt : i < xs.length := by omega
    obtain ⟨q0, q1, q2⟩ := hx xs[i] (List.getElem_mem hlt)
    simp only [impl_SystemOk.l0, impl_SystemOk.j3, impl_SystemOk.j4]
    rw [if_pos (by omega), if_pos (by omega), if_pos (by omega), rdT hlt, areScalars_f _ q0 (k + 2) (by omega), areScalars_f _ q1 (k + 1) (by omega), areScalars_f _ q2 k (by omega), List.drop_eq_getElem_cons hlt, List.all_cons]
    simp only [Option.bind_some]
    rw [wrap_in (by omega) (by omega), show (i : Int) + 1 = ((i + 1 : Nat) : Int) by omega, ih (i + 1) k (by omega) (by omega)]
    unfold rowOk wide
    by_cases c0 : (xs[i].f0.length : Int) = a <;> by_cases c1 : (xs[i].f1.length : Int) = a <;> by_cases c2 : (xs[i].f2.length : Int) = a <;>
      cases xs[i].f0.all inb <;> cases xs[i].f1.all inb <;> cases xs[i].f2.all inb <;> simp [c0, c1, c2]
theorem implOk_f (a b : Int) (xs : List RT) (ha : -9223372036854775808 ≤ a) (hx : ∀ y ∈ xs, fitsT y) (hn : xs.length ≤ 1048576) (k : Nat) (hk : 4194400 < k) : impl_SystemOk.f k a b xs = some (sysOk a b xs) := by
  obtain ⟨k, rfl⟩ : ∃ m, k = m + 2 := ⟨k - 2, by omega⟩
  have h0 := implOk_l0 a b xs xs hx hn xs.length 0 k (by omega) (by omega)
  rw [List.drop_zero, Int.ofNat_zero] at h0
  unfold impl_SystemOk.f sysOk
  by_cases c1 : 1 ≤ a
  · rw [if_neg (by omega), decide_eq_true c1]
    by_cases c2 : a ≤ 20
    · rw [if_neg (by omega), decide_eq_true c2, wrap_in (by omega) (by omega)]
      by_cases c3 : 0 ≤ b
      · rw [if_neg (by omega), decide_eq_true c3]
        simp only [impl_SystemOk.j0, impl_SystemOk.j1]
        by_cases c4 : b ≤ a - 1
        · rw [decide_eq_false (show ¬ b > a - 1 by omega), decide_eq_true c4, if_neg (by decide)]
          by_cases c5 : 1 ≤ xs.length
          · rw [if_neg (by omega), decide_eq_true c5]
            by_cases c6 : xs.length ≤ 16
            · rw [decide_eq_false (show ¬ (xs.length : Int) > 16 by omega), decide_eq_true c6, if_neg (by decide), h0]; simp
            · rw [decide_eq_true (show (xs.length : Int) > 16 by omega), decide_eq_false c6]; simp
          · rw [if_pos (by omega), decide_eq_false c5]; simp
        · rw [decide_eq_true (show b > a - 1 by omega), decide_eq_false c4]; simp
      · rw [if_pos (by omega), decide_eq_false c3]; simp [impl_SystemOk.j0]
    · rw [if_pos (by omega), decide_eq_false c2]; simp [impl_SystemOk.j0]
  · rw [if_pos (by omega), decide_eq_false c1]; simp [impl_SystemOk.j0]
end Go.Proofs.Ytcnejiflpioaiaa.Sys
end
section
set_option linter.unusedVariables false
set_option linter.unusedSimpArgs false
namespace Go.Proofs.Ytcnejiflpioaiaa.Qap
open Go.RowKit Go.Proofs.Ytcnejiflpioaiaa.Pf Go.Proofs.YtcnejiflpioaiaaW.PrintWords Go.Proofs.Ytcnejiflpioaiaa.Ints Go.Proofs.Ytcnejiflpioaiaa.Poly
open Go.Proofs.Ytcnejiflpioaiaa.Sys (RT rdT sysOk rowOk wide inb fitsT)
set_option maxRecDepth 4000
def sdot : List Int → List Int → Int → Int
  | x :: xs, y :: ys, a => sdot xs ys ((a + x * y) % 1009)
  | _, _, a => a
theorem sdot_stop (xs ys : List Int) (a : Int) (h : ¬ (0 < xs.length ∧ 0 < ys.length)) : sdot xs ys a = a := by
  cases xs with
  | nil => rfl
  | cons x xs => cases ys with
    | nil => rfl
    | cons y ys => exact absurd ⟨by simp, by simp⟩ h
theorem sdot_range (xs ys : List Int) (a : Int) (h : 0 ≤ a ∧ a ≤ 1008) : 0 ≤ sdot xs ys a ∧ sdot xs ys a ≤ 1008 := by
  induction xs generalizing ys a with
  | nil => exact h
  | cons x xs ih => cases ys with
    | nil => exact h
    | cons y ys => exact ih ys _ (by omega)
theorem specDot_l0 (xs ys : List Int) (hn : xs.length ≤ 1048576) (d : Nat) : ∀ (i k : Nat) (a : Int), i + d = xs.length → 2 * d + 1 < k →
    spec_ScDot.l0 k xs ys a (i : Int) = some (sdot (xs.drop i) (ys.drop i) a) := by
  induction d with
  | zero =>
    intro i k a hi hk
    obtain ⟨k, rfl⟩ : ∃ m, k = m + 2 := ⟨k - 2, by omega⟩
    simp only [spec_ScDot.l0, spec_ScDot.j1]
    rw [if_neg (by omega), if_neg (by decide), sdot_stop _ _ _ (by simp; omega)]
  | succ d ih =>
    intro i k a hi hk
    obtain ⟨k, rfl⟩ : ∃ m, k = m + 2 := ⟨k - 2, by omega⟩
    have hlt : i < xs.length := by omega
    simp only [spec_ScDot.l0, spec_ScDot.j1]
    rw [if_pos (by omega)]
    by_cases hy : i < ys.length
    · rw [if_pos (decide_eq_true (by omega)), if_pos (by omega), if_pos (by omega), if_pos (by omega), rd_at, rd_at, at_lt hlt, at_lt hy, spec_ScMul_eq]
      simp only [Option.bind_some, spec_ScAdd_eq]
      rw [wrap_in (by omega) (by omega), show (i : Int) + 1 = ((i + 1 : Nat) : Int) by omega, ih (i + 1) k _ (by omega) (by omega), List.drop_eq_getElem_cons hlt, List.drop_eq_getElem_cons hy]
      simp only [sdot]
      rw [show (a + xs[i] * ys[i] % 1009) % 1009 = (a + xs[i] * ys[i]) % 1009 by omega]
    · rw [if_neg (by rw [decide_eq_true_eq]; omega), sdot_stop _ _ _ (by simp; omega)]
theorem specDot_f (xs ys : List Int) (hn : xs.length ≤ 1048576) (k : Nat) (hk : 2 * xs.length + 1 < k) : spec_ScDot.f k xs ys = some (sdot xs ys 0) := by
  unfold spec_ScDot.f
  have h := specDot_l0 xs ys hn xs.length 0 k 0 (by omega) (by omega)
  rw [List.drop_zero, List.drop_zero] at h
  exact h
def mix : List (List Int) → List Int → List Int → List Int
  | u :: us, c :: cs, out => mix us cs (padd out (scale u c))
  | _, _, out => out
theorem mix_stop (us : List (List Int)) (cs out : List Int) (h : ¬ (0 < us.length ∧ 0 < cs.length)) : mix us cs out = out := by
  cases us with
  | nil => rfl
  | cons u us => cases cs with
    | nil => rfl
    | cons c cs => exact absurd ⟨by simp, by simp⟩ h
theorem mix_len (n : Nat) (us : List (List Int)) (hu : ∀ u ∈ us, u.length ≤ n) (cs out : List Int) (ho : out.length ≤ n) : (mix us cs out).length ≤ n := by
  induction us generalizing cs out with
  | nil => exact ho
  | cons u us ih => cases cs with
    | nil => exact ho
    | cons c cs =>
      refine ih (fun v hv => hu v (List.mem_cons_of_mem _ hv)) cs _ ?_
      have h1 := padd_length out (scale u c)
      rw [scale_length] at h1
      have h2 := hu u List.mem_cons_self
      omega
theorem pat_mix (x : Int) (us : List (List Int)) (cs out : List Int) : pat (mix us cs out) x = sdot (us.map (fun u => pat u x)) cs (pat out x) := by
  induction us generalizing cs out with
  | nil => rfl
  | cons u us ih => cases cs with
    | nil => rfl
    | cons c cs =>
      have e : pat (padd out (scale u c)) x = (pat out x + pat u x * c) % 1009 := by rw [pat_add, pat_scale]; omega
      simp only [mix, List.map_cons, sdot]
      rw [ih, e]
theorem rdL {us : List (List Int)} {i : Nat} (h : i < us.length) : rd_L2 us (i : Int) = us[i] := by
  unfold rd_L2
  rw [Int.toNat_natCast, List.getD_eq_getElem?_getD, List.getElem?_eq_getElem h]; rfl
theorem impl_Mixed_l0 (us : List (List Int)) (ws : List Int) (N : Nat) (hN : N ≤ 1048576) (hu : ∀ u ∈ us, u.length ≤ N) (hl : us.length ≤ 1048576) : ∀ (d i : Nat) (out : List Int), out.length ≤ N → i + d = min us.length ws.length →
    Ev (fun k => impl_Mixed.l0 k us ws out (mn (us.length : Int) (ws.length : Int)) (i : Int)) (mix (us.drop i) (ws.drop i) out)
  | 0, i, out, ho, hi => Ev.one fun k => by
    have hm : mn (us.length : Int) (ws.length : Int) = ((min us.length ws.length : Nat) : Int) := by unfold mn; omega
    simp only [impl_Mixed.l0]
    rw [hm, if_neg (by omega), mix_stop _ _ _ (by simp; omega)]
  | d + 1, i, out, ho, hi => by
    have hm : mn (us.length : Int) (ws.length : Int) = ((min us.length ws.length : Nat) : Int) := by unfold mn; omega
    have h1 : i < us.length := by omega
    have h2 : i < ws.length := by omega
    have hul := hu us[i] (List.getElem_mem h1)
    have hp := padd_length out (scale us[i] ws[i])
    rw [scale_length] at hp
    obtain ⟨K1, e1⟩ := impl_scaled_ev us[i] ws[i] (by omega)
    obtain ⟨K2, e2⟩ := impl_PolyAdd_ev out (scale us[i] ws[i]) (by omega) (by rw [scale_length]; omega)
    obtain ⟨K3, e3⟩ := impl_Mixed_l0 us ws N hN hu hl d (i + 1) (padd out (scale us[i] ws[i])) (by omega) (by omega)
    refine ⟨K1 + K2 + K3 + 1, fun k hk => ?_⟩
    obtain ⟨k, rfl⟩ : ∃ m, k = m + 1 := ⟨k - 1, by omega⟩
    have g1 := e1 k (by omega)
    have g2 := e2 k (by omega)
    have g3 := e3 k (by omega)
    dsimp only at g1 g2 g3
    rw [hm] at g3
    simp only [impl_Mixed.l0]
    rw [hm, if_pos (by omega), if_pos (by omega), if_pos (by omega), if_pos (by omega), rdL h1, rd_at, at_lt h2, g1, Option.bind_some, g2, Option.bind_some, wrap_in (by omega) (by omega), List.drop_eq_getElem_cons h1, List.drop_eq_getElem_cons h2]
    exact g3
theorem impl_Mixed_ev (us : List (List Int)) (ws : List Int) (N : Nat) (hN : N ≤ 1048576) (hu : ∀ u ∈ us, u.length ≤ N) (hl : us.length ≤ 1048576) : Ev (fun k => impl_Mixed.f k us ws) (mix us ws []) := by
  have h := impl_Mixed_l0 us ws N hN hu hl (min us.length ws.length) 0 [] (by simp) (by omega)
  rw [List.drop_zero, List.drop_zero] at h
  exact h
def colA (rows : List RT) (j : Nat) : List Int := rows.map (fun r => at_ r.f0 j)
def colB (rows : List RT) (j : Nat) : List Int := rows.map (fun r => at_ r.f1 j)
def colC (rows : List RT) (j : Nat) : List Int := rows.map (fun r => at_ r.f2 j)
def qA (rows : List RT) (n : Nat) : List (List Int) := (List.range n).map (fun j => pthrough (colA rows j))
def qB (rows : List RT) (n : Nat) : List (List Int) := (List.range n).map (fun j => pthrough (colB rows j))
def qC (rows : List RT) (n : Nat) : List (List Int) := (List.range n).map (fun j => pthrough (colC rows j))
theorem q_succ (f : Nat → List Int) (n : Nat) : (List.range (n + 1)).map f = (List.range n).map f ++ [f n] := by simp [List.range_succ]
theorem wide_of {xs : List Int} {n : Int} (h : wide xs n = true) : (xs.length : Int) = n ∧ ∀ x ∈ xs, 0 ≤ x ∧ x ≤ 1008 := by
  unfold wide at h
  rw [Bool.and_eq_true, List.all_eq_true] at h
  refine ⟨by simpa using h.2, fun x hx => ?_⟩
  have := h.1 x hx
  unfold inb at this
  simpa using this
structure Fine (n : Nat) (rows : List RT) : Prop where
  n1 : 1 ≤ n
  n2 : n ≤ 20
  m1 : 1 ≤ rows.length
  m2 : rows.length ≤ 16
  all : ∀ r ∈ rows, (r.f0.length = n ∧ ∀ x ∈ r.f0, 0 ≤ x ∧ x ≤ 1008) ∧ (r.f1.length = n ∧ ∀ x ∈ r.f1, 0 ≤ x ∧ x ≤ 1008) ∧ (r.f2.length = n ∧ ∀ x ∈ r.f2, 0 ≤ x ∧ x ≤ 1008)
theorem fine_of {a b : Int} {rows : List RT} (h : sysOk a b rows = true) : ∃ n : Nat, a = (n : Int) ∧ Fine n rows := by
  unfold sysOk at h
  simp only [Bool.and_eq_true, decide_eq_true_eq, List.all_eq_true] at h
  obtain ⟨⟨⟨⟨⟨⟨h1, h2⟩, h3⟩, h4⟩, h5⟩, h6⟩, h7⟩ := h
  refine ⟨a.toNat, by omega, by omega, by omega, h5, h6, fun r hr => ?_⟩
  have := h7 r hr
  unfold rowOk at this
  simp only [Bool.and_eq_true] at this
  obtain ⟨⟨w0, w1⟩, w2⟩ := this
  obtain ⟨l0, r0⟩ := wide_of w0
  obtain ⟨l1, r1⟩ := wide_of w1
  obtain ⟨l2, r2⟩ := wide_of w2
  exact ⟨⟨by omega, r0⟩, ⟨by omega, r1⟩, ⟨by omega, r2⟩⟩
theorem impl_QapOf_l1 {n : Nat} {rows : List RT} (hf : Fine n rows) (a0 a1 : Int) (j : Nat) (hj : j < n) (U V W : List (List Int)) (hU : U.length = j) (hV : V.length = j) (hW : W.length = j) (r)
    (next : Ev (fun k => impl_QapOf.l0 k (n : Int) ((j + 1 : Nat) : Int) a0 a1 rows (U ++ [pthrough (colA rows j)]) (V ++ [pthrough (colB rows j)]) (W ++ [pthrough (colC rows j)])) r) : ∀ (d i : Nat), i + d = rows.length →
    Ev (fun k => impl_QapOf.l1 k (j : Int) (colA (rows.take i) j) (colB (rows.take i) j) (colC (rows.take i) j) (n : Int) (j : Int) rows (rows.length : Int) (i : Int) a0 a1 rows U V W) r
  | 0, i, hi => by
    have := hf.n2
    obtain ⟨K1, h1⟩ := impl_PolyThrough_ev (colA rows j)
    obtain ⟨K2, h2⟩ := impl_PolyThrough_ev (colB rows j)
    obtain ⟨K3, h3⟩ := impl_PolyThrough_ev (colC rows j)
    obtain ⟨K4, h4⟩ := next
    refine ⟨K1 + K2 + K3 + K4 + 1, fun k hk => ?_⟩
    obtain ⟨k, rfl⟩ : ∃ m, k = m + 1 := ⟨k - 1, by omega⟩
    have e1 := h1 k (by omega)
    have e2 := h2 k (by omega)
    have e3 := h3 k (by omega)
    have e4 := h4 k (by omega)
    dsimp only at e1 e2 e3 e4
    simp only [impl_QapOf.l1]
    rw [if_neg (by omega), List.take_of_length_le (by omega), e1, Option.bind_some, if_pos (by omega), e2, Option.bind_some, if_pos (by omega), e3, Option.bind_some, if_pos (by omega), wrap_in (by omega) (by omega)]
    exact e4
  | d + 1, i, hi => by
    have hm := hf.m2
    have hlt : i < rows.length := by omega
    obtain ⟨⟨l0, _⟩, ⟨l1, _⟩, l2, _⟩ := hf.all rows[i] (List.getElem_mem hlt)
    have eA : colA (rows.take (i + 1)) j = colA (rows.take i) j ++ [at_ rows[i].f0 j] := by unfold colA; rw [List.take_succ_eq_append_getElem hlt, List.map_append]; rfl
    have eB : colB (rows.take (i + 1)) j = colB (rows.take i) j ++ [at_ rows[i].f1 j] := by unfold colB; rw [List.take_succ_eq_append_getElem hlt, List.map_append]; rfl
    have eC : colC (rows.take (i + 1)) j = colC (rows.take i) j ++ [at_ rows[i].f2 j] := by unfold colC; rw [List.take_succ_eq_append_getElem hlt, List.map_append]; rfl
    have q0 : (colA (rows.take i) j).length = i := by unfold colA; rw [List.length_map, List.length_take]; omega
    have q1 : (colB (rows.take i) j).length = i := by unfold colB; rw [List.length_map, List.length_take]; omega
    have q2 : (colC (rows.take i) j).length = i := by unfold colC; rw [List.length_map, List.length_take]; omega
    refine Ev.step (fun k => ?_) (impl_QapOf_l1 hf a0 a1 j hj U V W hU hV hW r next d (i + 1) (by omega))
    simp only [impl_QapOf.l1]
    rw [if_pos (by omega), if_pos (by omega), if_pos (by omega), if_pos (by omega), rdT hlt, if_pos (by omega), if_pos (by omega), if_pos (by omega), if_pos (by omega), if_pos (by omega), if_pos (by omega), rd_at, rd_at, rd_at, wrap_in (by omega) (by omega), eA, eB, eC]
    rfl
theorem impl_QapOf_l0 {n : Nat} {rows : List RT} (hf : Fine n rows) (a0 a1 : Int) : ∀ (d j : Nat), j + d = n →
    Ev (fun k => impl_QapOf.l0 k (n : Int) (j : Int) a0 a1 rows (qA rows j) (qB rows j) (qC rows j)) (qA rows n, qB rows n, qC rows n, true)
  | 0, j, hj => Ev.one fun k => by
    simp only [impl_QapOf.l0]
    rw [if_neg (by omega), show j = n by omega]
  | d + 1, j, hj => by
    have hn := hf.n2
    refine Ev.step (fun k => ?_) (impl_QapOf_l1 hf a0 a1 j (by omega) (qA rows j) (qB rows j) (qC rows j) (by simp [qA]) (by simp [qB]) (by simp [qC]) _ (by
      have ih := impl_QapOf_l0 hf a0 a1 d (j + 1) (by omega)
      unfold qA qB qC at ih
      rw [q_succ, q_succ, q_succ] at ih
      exact ih) rows.length 0 (by omega))
    simp only [impl_QapOf.l0]
    rw [if_pos (by omega)]
    rfl
theorem fits_fine {n : Nat} {rows : List RT} (hf : Fine n rows) : ∀ y ∈ rows, fitsT y := fun y hy => by
  have hn := hf.n2
  obtain ⟨⟨l0, _⟩, ⟨l1, _⟩, l2, _⟩ := hf.all y hy
  exact ⟨by omega, by omega, by omega⟩
theorem impl_QapOf_right {a b : Int} {rows : List RT} (h : sysOk a b rows = true) : ∃ n : Nat, a = (n : Int) ∧ Fine n rows ∧ Ev (fun k => impl_QapOf.f k a b rows) (qA rows n, qB rows n, qC rows n, true) := by
  obtain ⟨n, rfl, hf⟩ := fine_of h
  refine ⟨n, rfl, hf, ?_⟩
  obtain ⟨K, e⟩ := impl_QapOf_l0 hf (n : Int) b n 0 (by omega)
  have hm := hf.m2
  refine ⟨K + 4194401, fun k hk => ?_⟩
  have g := e k (by omega)
  dsimp only at g ⊢
  unfold impl_QapOf.f
  rw [Sys.implOk_f _ _ _ (by omega) (fits_fine hf) (by omega) k (by omega), Option.bind_some, h, if_pos rfl]
  exact g
end Go.Proofs.Ytcnejiflpioaiaa.Qap
end
section
namespace Go.Proofs.Ytcnejiflpioaiaa.Pf
open Go.RowKit Go.Proofs.YtcnejiflpioaiaaW.PrintWords Go.Proofs.YtcnejiflpioaiaaW.PrintLast Go.Proofs.YtcnejiflpioaiaaW.PrintMore
attribute [local go_sem] max2_int min2_int max_two min_two max_three min_three max_four min_four   -- for this text's walks alone
set_option linter.unusedVariables false
set_option linter.unusedSimpArgs false



end Go.Proofs.Ytcnejiflpioaiaa.Pf
end
section
set_option linter.unusedVariables false
set_option linter.unusedSimpArgs false
namespace Go.Proofs.Ytcnejiflpioaiaa.Draw
open Go.RowKit Go.Proofs.Ytcnejiflpioaiaa.Pf Go.Proofs.YtcnejiflpioaiaaW.PrintWords
theorem wrapd {i : Int} (h0 : -9223372036854775808 ≤ i) (h : i ≤ 9223372036854775807) : wrap64 i = i := by
  unfold wrap64; omega
theorem Ev.one {α : Type} {g : Nat → Option α} {r : α} (h : ∀ k, g (k + 1) = some r) : Ev g r :=
  ⟨1, fun k hk => by obtain ⟨k, rfl⟩ : ∃ m, k = m + 1 := ⟨k - 1, by omega⟩; exact h k⟩
theorem and_255 (x : Int) : 0 ≤ Go.bits .and .i64 x 255 ∧ Go.bits .and .i64 x 255 ≤ 255 := by
  have h : (BitVec.ofInt (IntKind.bits .i64) 255).toNat = 255 := by decide
  simp only [Go.bits, BitVec.toNat_and, h]
  generalize (BitVec.ofInt _ x).toNat = a
  have : a &&& 255 ≤ 255 := Nat.and_le_right
  rw [IntKind.wrap_i64]
  omega
def Okc (b : List Int) (i : Int) : Prop := 0 ≤ i ∧ i ≤ 9223372036854775807 ∧ b.length ≤ 9223372036854775807
theorem byte_some (b : List Int) (i h : Int) (ho : Okc b i) : ∃ x i' h', spec_l01Byte.f b i h = some (x, i', h') ∧ 0 ≤ x ∧ x ≤ 255 ∧ Okc b i' := by
  obtain ⟨h0, h1, h2⟩ := ho
  unfold spec_l01Byte.f
  by_cases c : i < (b.length : Int)
  · rw [if_pos c, if_pos h0, wrapd (i := i + 1) (by omega) (by omega)]
    exact ⟨_, _, _, rfl, (and_255 _).1, (and_255 _).2, by omega, by omega, h2⟩
  · rw [if_neg c]
    exact ⟨_, _, _, rfl, (and_255 _).1, (and_255 _).2, h0, h1, h2⟩
theorem below_some (b : List Int) (i h n : Int) (ho : Okc b i) (hn : 0 < n) (hn2 : n ≤ 4294967296) : ∃ x i' h', spec_l01Below.f b i h n = some (x, i', h') ∧ 0 ≤ x ∧ x < n ∧ Okc b i' := by
  unfold spec_l01Below.f
  rw [if_neg (by omega)]
  by_cases c : n ≤ 256
  · obtain ⟨x, i1, h1, e1, x0, x1, o1⟩ := byte_some b i h ho
    rw [if_pos c, e1]
    simp only [Option.bind_some]
    rw [if_neg (by omega)]
    exact ⟨_, _, _, rfl, Int.tmod_nonneg _ x0, Int.tmod_lt_of_pos _ hn, o1⟩
  · obtain ⟨x, i1, h1, e1, x0, x1, o1⟩ := byte_some b i h ho
    obtain ⟨y, i2, h2, e2, y0, y1, o2⟩ := byte_some b i1 h1 o1
    obtain ⟨z, i3, h3, e3, z0, z1, o3⟩ := byte_some b i2 h2 o2
    obtain ⟨u, i4, h4, e4, u0, u1, o4⟩ := byte_some b i3 h3 o3
    rw [if_neg c]
    simp only [e1, e2, e3, e4, Option.bind_some]
    rw [if_neg (by omega), wrapd (i := x * 16777216) (by omega) (by omega), wrapd (i := y * 65536) (by omega) (by omega), wrapd (i := z * 256) (by omega) (by omega), wrapd (i := x * 16777216 + y * 65536) (by omega) (by omega), wrapd (i := x * 16777216 + y * 65536 + z * 256) (by omega) (by omega), wrapd (by omega) (by omega)]
    exact ⟨_, _, _, rfl, Int.tmod_nonneg _ (by omega), Int.tmod_lt_of_pos _ hn, o4⟩
theorem new_l0 (b : List Int) (hb : b.length ≤ 9223372036854775807) : ∀ (d i : Nat) (h : Int), i + d = b.length → ∃ h', Ev (fun k => spec_l01New.l0 k b h (i : Int)) (b, 0, h')
  | 0, i, h, hi => ⟨h, Ev.one fun k => by
      simp only [spec_l01New.l0]
      rw [if_neg (by omega)]⟩
  | d + 1, i, h, hi => by
    by_cases c : (i : Int) < 4000
    · obtain ⟨h', he⟩ := new_l0 b hb d (i + 1) (Go.bits .and .i64 (wrap64 ((wrap64 ((wrap64 (h * 131)) + (wrap64 (rd b (i : Int))))) + 7)) 1073741823) (by omega)
      refine ⟨h', Ev.step (fun k => ?_) he⟩
      simp only [spec_l01New.l0]
      rw [if_pos (by omega), if_pos c, if_pos (by omega), wrapd (i := (i : Int) + 1) (by omega) (by omega)]
      rfl
    · refine ⟨h, Ev.one fun k => ?_⟩
      simp only [spec_l01New.l0]
      rw [if_pos (by omega), if_neg c]
theorem new_ev (b : List Int) (hb : b.length ≤ 9223372036854775807) : ∃ h, Ev (fun k => spec_l01New.f k b) (b, 0, h) := by
  obtain ⟨h, he⟩ := new_l0 b hb b.length 0 (wrap64 (76801 + (b.length : Int))) (by omega)
  exact ⟨h, he⟩
theorem ok0 (b : List Int) (hb : b.length ≤ 9223372036854775807) : Okc b 0 := ⟨by omega, by omega, hb⟩
theorem once_some (b : List Int) (i h n : Int) (ho : Okc b i) (hn : 0 < n) (hn2 : n ≤ 4294967296) : ∃ x i' h', spec_l01Once.f b i h n = some (x, i', h') ∧ Okc b i' := by
  obtain ⟨x, i1, h1, e1, _, _, o1⟩ := below_some b i h n ho hn hn2
  exact ⟨x == 0, i1, h1, by simp only [spec_l01Once.f, e1, Option.bind_some], o1⟩
theorem pick_some (b : List Int) (i h : Int) (l : List Int) (ho : Okc b i) (hl : 0 < l.length) (hl2 : l.length ≤ 1000) : ∃ x i' h', spec_l01PickInt.f b i h l = some (x, i', h') ∧ x ∈ l ∧ Okc b i' := by
  obtain ⟨x, i1, h1, e1, x0, x1, o1⟩ := below_some b i h (l.length : Int) ho (by omega) (by omega)
  have hx : x.toNat < l.length := by omega
  refine ⟨rd l x, i1, h1, ?_, ?_, o1⟩
  · simp only [spec_l01PickInt.f, e1, Option.bind_some]
    rw [if_pos x0, if_pos x1]
  · unfold rd
    rw [List.getD_eq_getElem?_getD, List.getElem?_eq_getElem hx, Option.getD_some]
    exact List.getElem_mem hx
theorem places_l0 (b : List Int) : ∀ (d : Nat) (j : Nat) (xs : List Int) (i h : Int), j + d = 12 → xs.length = j → (∀ x ∈ xs, 0 ≤ x ∧ x ≤ 9999) → Okc b i →
    ∃ ys : List Int, ys.length = 12 ∧ (∀ x ∈ ys, 0 ≤ x ∧ x ≤ 9999) ∧ Ev (fun k => spec_DrawPlaces.l0 k xs (j : Int) b i h) ys
  | 0, j, xs, i, h, hj, hl, hx, ho => ⟨xs, by omega, hx, Ev.one fun k => by
      simp only [spec_DrawPlaces.l0]
      rw [if_neg (by omega)]⟩
  | d + 1, j, xs, i, h, hj, hl, hx, ho => by
    obtain ⟨x, i1, h1, e1, x0, x1, o1⟩ := below_some b i h 10000 ho (by decide) (by decide)
    obtain ⟨ys, y1, y2, y3⟩ := places_l0 b d (j + 1) (xs ++ [x]) i1 h1 (by omega) (by simp [hl]) (fun z hz => by
      rcases List.mem_append.1 hz with hz | hz
      · exact hx z hz
      · rw [List.mem_singleton.1 hz]; omega) o1
    refine ⟨ys, y1, y2, Ev.step (fun k => ?_) y3⟩
    simp only [spec_DrawPlaces.l0]
    rw [if_pos (by omega), e1, Option.bind_some, if_pos (by omega), wrapd (by omega) (by omega)]
    rfl
theorem places_ev (b : List Int) (hb : b.length ≤ 9223372036854775807) : ∃ ys : List Int, ys.length = 12 ∧ (∀ x ∈ ys, 0 ≤ x ∧ x ≤ 9999) ∧ Ev (fun k => spec_DrawPlaces.f k b) ys := by
  obtain ⟨h, K1, e1⟩ := new_ev b hb
  obtain ⟨x, i1, h1, e2, _, _, o1⟩ := byte_some b 0 h (ok0 b hb)
  obtain ⟨ys, y1, y2, K2, y3⟩ := places_l0 b 12 0 [] i1 h1 (by omega) rfl (fun z hz => by cases hz) o1
  refine ⟨ys, y1, y2, K1 + K2, fun k hk => ?_⟩
  have g1 := e1 k (by omega)
  have g2 := y3 k (by omega)
  dsimp only at g1 g2 ⊢
  simp only [spec_DrawPlaces.f, g1, Option.bind_some, e2]
  exact g2
theorem num_some (b : List Int) (i h : Int) (ho : Okc b i) : ∃ x i' h', spec_l06Num.f b i h = some (x, i', h') ∧ Okc b i' := by
  obtain ⟨x, i1, h1, e1, _, _, o1⟩ := below_some b i h 256 ho (by decide) (by decide)
  obtain ⟨y, i2, h2, e2, _, o2⟩ := pick_some b i1 h1 [0, 1, 2, 1008, 1009, 1010, (-1), wrap64 (x * 3), 500, (-9223372036854775808), 9223372036854775807] o1 (by simp) (by simp)
  exact ⟨y, i2, h2, by simp only [spec_l06Num.f, e1, Option.bind_some, e2], o2⟩
end Go.Proofs.Ytcnejiflpioaiaa.Draw
end
section
set_option linter.unusedVariables false
set_option linter.unusedSimpArgs false
namespace Go.Proofs.Ytcnejiflpioaiaa.Qap
open Go.RowKit Go.Proofs.Ytcnejiflpioaiaa.Pf Go.Proofs.YtcnejiflpioaiaaW.PrintWords Go.Proofs.Ytcnejiflpioaiaa.Ints Go.Proofs.Ytcnejiflpioaiaa.Poly
open Go.Proofs.Ytcnejiflpioaiaa.Sys (RT)
open Go.Proofs.Ytcnejiflpioaiaa.Draw (Okc below_some once_some num_some)
set_option maxRecDepth 4000
def holds (w : List Int) (r : RT) : Bool := (sdot r.f0 w 0 * sdot r.f1 w 0) % 1009 == sdot r.f2 w 0
def rng (xs : List Int) : Prop := ∀ x ∈ xs, 0 ≤ x ∧ x ≤ 1008
instance (xs : List Int) : Decidable (rng xs) := by unfold rng; infer_instance
def rowFine (n : Nat) (r : RT) : Prop := (r.f0.length = n ∧ rng r.f0) ∧ (r.f1.length = n ∧ rng r.f1) ∧ (r.f2.length = n ∧ rng r.f2)
instance (n : Nat) (r : RT) : Decidable (rowFine n r) := by unfold rowFine; infer_instance
structure Drawn (n : Nat) (p : Int) (rows : List RT) (w : List Int) : Prop where
  n1 : 1 ≤ n
  n2 : n ≤ 20
  p0 : 0 ≤ p
  p1 : p ≤ (n : Int) - 1
  m1 : 1 ≤ rows.length
  m2 : rows.length ≤ 16
  wl : w.length = n
  wr : rng w
  all : ∀ r ∈ rows, rowFine n r ∧ holds w r = true
def countRows : List RT := match spec_CountSystem.f 40 with | some (_, _, rows) => rows | none => []
theorem count_is : spec_CountSystem.f 40 = some (11, 2, countRows) := by kernel_rfl
theorem count_ev : Ev (fun k => spec_CountSystem.f k) (11, 2, countRows) := Ev.of (fun k => spec_CountSystem.mono k) count_is
theorem count_fine : countRows.length = 10 ∧ ∀ r ∈ countRows, rowFine 11 r := by decide +kernel
def chk (n : Nat) : Bool := match spec_CountWitness.f 40 (n : Int) with | some w => (w.length == 11) && (w.all (fun x => decide (0 ≤ x) && decide (x ≤ 1008)) && countRows.all (holds w)) | none => false
theorem chk_all : ∀ n : Fin 256, chk n.val = true := by decide +kernel
theorem count_drawn (n : Nat) (h : n < 256) : ∃ w, Ev (fun k => spec_CountWitness.f k (n : Int)) w ∧ Drawn 11 2 countRows w := by
  have c := chk_all ⟨n, h⟩
  unfold chk at c
  cases e : spec_CountWitness.f 40 (n : Int) with
  | none => rw [show ((⟨n, h⟩ : Fin 256).val : Int) = (n : Int) from rfl, e] at c; cases c
  | some w =>
    rw [show ((⟨n, h⟩ : Fin 256).val : Int) = (n : Int) from rfl, e] at c
    simp only [Bool.and_eq_true, List.all_eq_true, decide_eq_true_eq, beq_iff_eq] at c
    obtain ⟨c1, c2, c3⟩ := c
    refine ⟨w, Ev.of (fun k => spec_CountWitness.mono _ k) e, by decide, by decide, by decide, by decide, by rw [count_fine.1]; decide, by rw [count_fine.1]; decide, c1, c2, fun r hr => ⟨count_fine.2 r hr, c3 r hr⟩⟩
theorem sdot_zeros (m : Nat) (ys : List Int) (a : Int) (h : 0 ≤ a ∧ a ≤ 1008) : sdot (List.replicate m 0) ys a = a := by
  induction m generalizing ys with
  | zero => rfl
  | succ m ih => cases ys with
    | nil => rfl
    | cons y ys =>
      rw [List.replicate_succ, sdot, Int.zero_mul, show (a + 0) % 1009 = a by omega]
      exact ih ys
theorem rng_set {xs : List Int} (h : rng xs) (i : Nat) (x : Int) (h0 : 0 ≤ x) (h1 : x ≤ 1008) : rng (xs.set i x) := by
  intro y hy
  rcases List.mem_or_eq_of_mem_set hy with hy | rfl
  · exact h y hy
  · exact ⟨h0, h1⟩
theorem rng_zeros (m : Nat) : rng (List.replicate m 0) := by
  intro y hy
  rw [(List.mem_replicate.1 hy).2]
  decide
theorem row_f (n : Nat) (h : n ≤ 20) : spec_l13Row.f (n : Int) = some (List.replicate n 0, List.replicate n 0, List.replicate n 0) := by
  unfold spec_l13Row.f
  rw [if_pos (by omega), Int.toNat_natCast, if_pos (by omega)]
def mkRow (w A B : List Int) : RT := ⟨A, B, (List.replicate w.length 0).set 0 ((sdot A w 0 * sdot B w 0) % 1009)⟩
theorem mkRow_holds (ws A B : List Int) : holds (1 :: ws) (mkRow (1 :: ws) A B) = true := by
  unfold holds mkRow
  dsimp only
  rw [beq_iff_eq, List.length_cons, List.replicate_succ, List.set_cons_zero, sdot, sdot_zeros _ _ _ (by omega)]
  omega
theorem mkRow_fine {n : Nat} {w A B : List Int} (hw : w.length = n) (hA : A.length = n) (hB : B.length = n) (rA : rng A) (rB : rng B) : rowFine n (mkRow w A B) := by
  refine ⟨⟨hA, rA⟩, ⟨hB, rB⟩, ?_, ?_⟩
  · show ((List.replicate w.length 0).set 0 _).length = n
    rw [List.length_set, List.length_replicate, hw]
  · exact rng_set (rng_zeros _) _ _ (by omega) (by omega)
abbrev Out := Int × Int × List RT × List Int × Int × Int
theorem sys_l2 (b : List Int) (n : Nat) (hn : n ≤ 20) (hn1 : 1 ≤ n) (w : List Int) (hw : w.length = n) (p : Int) (j : Nat) (hj : j ≤ 16) (rows : List RT) (hr : rows.length = j) (Q : Out → Prop)
    (next : ∀ A B i h, A.length = n → B.length = n → rng A → rng B → Okc b i → ∃ out, Q out ∧ Ev (fun k => spec_l13System.l1 k (n : Int) w ((j + 1 : Nat) : Int) b i h (n : Int) p (rows ++ [mkRow w A B])) out) :
    ∀ (d x : Nat) (A B : List Int) (i h : Int), x + d = n → A.length = n → B.length = n → rng A → rng B → Okc b i →
      ∃ out, Q out ∧ Ev (fun k => spec_l13System.l2 k (n : Int) w (j : Int) (x : Int) b i h (n : Int) p rows A B (List.replicate n 0)) out
  | 0, x, A, B, i, h, hx, hA, hB, rA, rB, ho => by
    obtain ⟨out, q, K, e⟩ := next A B i h hA hB rA rB ho
    refine ⟨out, q, K + 100, fun k hk => ?_⟩
    obtain ⟨k, rfl⟩ : ∃ m, k = m + 1 := ⟨k - 1, by omega⟩
    have g := e k (by omega)
    dsimp only at g ⊢
    rw [← g]
    simp only [spec_l13System.l2]
    rw [if_neg (by omega), specDot_f A w (by omega) k (by omega), Option.bind_some, specDot_f B w (by omega) k (by omega), Option.bind_some, spec_ScMul_eq, Option.bind_some, if_pos (by rw [List.length_replicate]; omega), if_pos (by omega), wrap_in (by omega) (by omega)]
    unfold mkRow
    rw [hw]
    rfl
  | d + 1, x, A, B, i, h, hx, hA, hB, rA, rB, ho => by
    obtain ⟨u, i1, h1, e1, u0, u1, o1⟩ := below_some b i h 3 ho (by decide) (by decide)
    obtain ⟨v, i2, h2, e2, v0, v1, o2⟩ := below_some b i1 h1 3 o1 (by decide) (by decide)
    obtain ⟨out, q, e⟩ := sys_l2 b n hn hn1 w hw p j hj rows hr Q next d (x + 1) (A.set x u) (B.set x v) i2 h2 (by omega) (by rw [List.length_set]; exact hA) (by rw [List.length_set]; exact hB) (rng_set rA _ _ u0 (by omega)) (rng_set rB _ _ v0 (by omega)) o2
    refine ⟨out, q, Ev.step (fun k => ?_) e⟩
    simp only [spec_l13System.l2]
    rw [if_pos (by omega), e1, Option.bind_some, if_pos (by omega), if_pos (by omega), e2, Option.bind_some, if_pos (by omega), wrap_in (by omega) (by omega), Int.toNat_natCast]
    rfl
theorem sys_l1 (b : List Int) (n : Nat) (hn : n ≤ 20) (hn1 : 1 ≤ n) (ws : List Int) (hw : (1 :: ws).length = n) (p : Int) : ∀ (d j : Nat) (rows : List RT) (i h : Int), j + d = 4 → rows.length = j → (∀ r ∈ rows, rowFine n r ∧ holds (1 :: ws) r = true) → Okc b i →
    ∃ out, (∃ rows' i' h', out = ((n : Int), p, rows', 1 :: ws, i', h') ∧ 1 ≤ rows'.length ∧ rows'.length ≤ 16 ∧ (∀ r ∈ rows', rowFine n r ∧ holds (1 :: ws) r = true) ∧ Okc b i') ∧ Ev (fun k => spec_l13System.l1 k (n : Int) (1 :: ws) (j : Int) b i h (n : Int) p rows) out := by
  intro d
  induction d with
  | zero =>
    intro j rows i h hj hr hg ho
    obtain ⟨t, i1, h1, e1, t0, t1, o1⟩ := below_some b i h 4 ho (by decide) (by decide)
    refine ⟨_, ⟨rows, i1, h1, rfl, by omega, by omega, hg, o1⟩, Ev.one fun k => ?_⟩
    simp only [spec_l13System.l1]
    rw [e1, Option.bind_some, wrap_in (by omega) (by omega), if_neg (by omega)]
  | succ d ih =>
    intro j rows i h hj hr hg ho
    obtain ⟨t, i1, h1, e1, t0, t1, o1⟩ := below_some b i h 4 ho (by decide) (by decide)
    by_cases c : (j : Int) < 1 + t
    · obtain ⟨out, q, e⟩ := sys_l2 b n hn hn1 (1 :: ws) hw p j (by omega) rows hr (fun out => ∃ rows' i' h', out = ((n : Int), p, rows', 1 :: ws, i', h') ∧ 1 ≤ rows'.length ∧ rows'.length ≤ 16 ∧ (∀ r ∈ rows', rowFine n r ∧ holds (1 :: ws) r = true) ∧ Okc b i') (fun A B i2 h2 hA hB rA rB o2 =>
        ih (j + 1) (rows ++ [mkRow (1 :: ws) A B]) i2 h2 (by omega) (by simp [hr]) (fun r hr' => by
          rcases List.mem_append.1 hr' with hr' | hr'
          · exact hg r hr'
          · rw [List.mem_singleton.1 hr']; exact ⟨mkRow_fine hw hA hB rA rB, mkRow_holds ws A B⟩) o2) n 0 (List.replicate n 0) (List.replicate n 0) i1 h1 (by omega) (by simp) (by simp) (rng_zeros _) (rng_zeros _) o1
      refine ⟨out, q, Ev.step (fun k => ?_) e⟩
      simp only [spec_l13System.l1]
      rw [e1, Option.bind_some, wrap_in (by omega) (by omega), if_pos c, row_f n hn]
      rfl
    · refine ⟨_, ⟨rows, i1, h1, rfl, by omega, by omega, hg, o1⟩, Ev.one fun k => ?_⟩
      simp only [spec_l13System.l1]
      rw [e1, Option.bind_some, wrap_in (by omega) (by omega), if_neg c]
theorem sys_l0 (b : List Int) (n : Nat) (hn : n ≤ 20) (hn1 : 1 ≤ n) : ∀ (d : Nat) (ws : List Int) (i h : Int), (1 :: ws).length + d = n → rng (1 :: ws) → Okc b i →
    ∃ p rows w i' h', Drawn n p rows w ∧ Okc b i' ∧ Ev (fun k => spec_l13System.l0 k (n : Int) (1 :: ws) b i h) ((n : Int), p, rows, w, i', h')
  | 0, ws, i, h, hl, hr, ho => by
    obtain ⟨p, i1, h1, e1, p0, p1, o1⟩ := below_some b i h (n : Int) ho (by omega) (by omega)
    obtain ⟨out, ⟨rows, i2, h2, rfl, m1, m2, hg, o2⟩, e⟩ := sys_l1 b n hn hn1 ws (by omega) p 4 0 [] i1 h1 (by omega) rfl (fun r hr => by cases hr) o1
    refine ⟨p, rows, 1 :: ws, i2, h2, ⟨hn1, hn, p0, by omega, m1, m2, by omega, hr, hg⟩, o2, Ev.step (fun k => ?_) e⟩
    simp only [spec_l13System.l0]
    rw [if_neg (by omega), e1, Option.bind_some]
    rfl
  | d + 1, ws, i, h, hl, hr, ho => by
    obtain ⟨x, i1, h1, e1, o1⟩ := num_some b i h ho
    obtain ⟨p, rows, w, i2, h2, g, o2, e⟩ := sys_l0 b n hn hn1 d (ws ++ [x % 1009]) i1 h1 (by simp only [List.length_cons, List.length_append, List.length_nil] at hl ⊢; omega) (fun y hy => by
      rw [← List.cons_append] at hy
      rcases List.mem_append.1 hy with hy | hy
      · exact hr y hy
      · rw [List.mem_singleton.1 hy]; omega) o1
    refine ⟨p, rows, w, i2, h2, g, o2, Ev.step (fun k => ?_) e⟩
    simp only [spec_l13System.l0]
    rw [if_pos (by omega), e1, Option.bind_some, spec_ScOf_eq, Option.bind_some, if_pos (by omega)]
    rfl
theorem system_some (b : List Int) (i h : Int) (ho : Okc b i) : ∃ (n : Nat) (p : Int) (rows : List RT) (w : List Int) (i' h' : Int), Drawn n p rows w ∧ Okc b i' ∧ Ev (fun k => spec_l13System.f k b i h) ((n : Int), p, rows, w, i', h') := by
  obtain ⟨o, i1, h1, e1, o1⟩ := once_some b i h 3 ho (by decide) (by decide)
  by_cases c : o = true
  · obtain ⟨t, i2, h2, e2, t0, t1, o2⟩ := below_some b i1 h1 256 o1 (by decide) (by decide)
    obtain ⟨w, ⟨K1, hw⟩, hd⟩ := count_drawn t.toNat (by omega)
    obtain ⟨K2, hc⟩ := count_ev
    rw [show ((t.toNat : Nat) : Int) = t by omega] at hw
    refine ⟨11, 2, countRows, w, i2, h2, hd, o2, K1 + K2, fun k hk => ?_⟩
    have g1 := hw k (by omega)
    have g2 := hc k (by omega)
    dsimp only at g1 g2 ⊢
    simp only [spec_l13System.f, e1, Option.bind_some]
    rw [if_pos c, e2, Option.bind_some, g2, Option.bind_some, g1]
    rfl
  · obtain ⟨t, i2, h2, e2, t0, t1, o2⟩ := below_some b i1 h1 4 o1 (by decide) (by decide)
    obtain ⟨p, rows, w, i3, h3, g, o3, e⟩ := sys_l0 b (2 + t.toNat) (by omega) (by omega) (1 + t.toNat) [] i2 h2 (by simp; omega) (by intro y hy; rw [List.mem_singleton.1 hy]; decide) o2
    refine ⟨2 + t.toNat, p, rows, w, i3, h3, g, o3, ?_⟩
    obtain ⟨K, e⟩ := e
    refine ⟨K, fun k hk => ?_⟩
    have g1 := e k hk
    dsimp only at g1 ⊢
    simp only [spec_l13System.f, e1, Option.bind_some]
    rw [if_neg c, e2, Option.bind_some, wrap_in (by omega) (by omega), show (2 : Int) + t = ((2 + t.toNat : Nat) : Int) by omega]
    exact g1
end Go.Proofs.Ytcnejiflpioaiaa.Qap
end
section
set_option linter.unusedVariables false
set_option linter.unusedSimpArgs false
namespace Go.Proofs.Ytcnejiflpioaiaa.Qap
open Go.RowKit Go.Proofs.Ytcnejiflpioaiaa.Pf Go.Proofs.YtcnejiflpioaiaaW.PrintWords Go.Proofs.Ytcnejiflpioaiaa.Ints Go.Proofs.Ytcnejiflpioaiaa.Poly
open Go.Proofs.Ytcnejiflpioaiaa.Sys (RT rdT sysOk rowOk wide inb fitsT)
set_option maxRecDepth 4000
theorem at_map (rows : List RT) (f : RT → Int) (i : Nat) (h : i < rows.length) : at_ (rows.map f) i = f rows[i] := by
  rw [at_lt (by rw [List.length_map]; exact h), List.getElem_map]
theorem pat_col (f : RT → List Int) (n : Nat) (rows : List RT) (hm : rows.length ≤ 16) (i : Nat) (hi : i < rows.length) (hl : (f rows[i]).length = n) (hr : rng (f rows[i])) :
    ((List.range n).map (fun j => pthrough (rows.map (fun r => at_ (f r) j)))).map (fun u => pat u ((i : Int) + 1)) = f rows[i] := by
  apply List.ext_getElem
  · simp [hl]
  · intro j h1 h2
    simp only [List.getElem_map, List.getElem_range]
    rw [pthrough_at _ (by rw [List.length_map]; exact hm) i (by rw [List.length_map]; exact hi), at_map rows _ i hi, at_lt h2]
    have := hr (f rows[i])[j] (List.getElem_mem h2)
    omega
theorem q_len (f : RT → List Int) (n : Nat) (rows : List RT) : ∀ u ∈ (List.range n).map (fun j => pthrough (rows.map (fun r => at_ (f r) j))), u.length ≤ rows.length := by
  intro u hu
  obtain ⟨j, _, rfl⟩ := List.mem_map.1 hu
  have := pthrough_len (rows.map (fun r => at_ (f r) j))
  rwa [List.length_map] at this
def mA (rows : List RT) (n : Nat) (w : List Int) : List Int := mix (qA rows n) w []
def mB (rows : List RT) (n : Nat) (w : List Int) : List Int := mix (qB rows n) w []
def mC (rows : List RT) (n : Nat) (w : List Int) : List Int := mix (qC rows n) w []
def allP (rows : List RT) (n : Nat) (w : List Int) : List Int := padd (pmul (mA rows n w) (mB rows n w)) (scale (mC rows n w) (-1))
theorem mA_len (rows : List RT) (n : Nat) (w : List Int) : (mA rows n w).length ≤ rows.length := mix_len _ _ (q_len _ n rows) _ _ (by simp)
theorem mB_len (rows : List RT) (n : Nat) (w : List Int) : (mB rows n w).length ≤ rows.length := mix_len _ _ (q_len _ n rows) _ _ (by simp)
theorem mC_len (rows : List RT) (n : Nat) (w : List Int) : (mC rows n w).length ≤ rows.length := mix_len _ _ (q_len _ n rows) _ _ (by simp)
theorem prod_len (rows : List RT) (n : Nat) (w : List Int) (h1 : 1 ≤ rows.length) : (pmul (mA rows n w) (mB rows n w)).length ≤ 2 * rows.length - 1 := by
  have ha := mA_len rows n w
  have hb := mB_len rows n w
  by_cases c : 0 < (mA rows n w).length + (mB rows n w).length
  · have := pmul_len _ _ c
    omega
  · have e1 : mA rows n w = [] := List.eq_nil_of_length_eq_zero (by omega)
    rw [e1, pmul_nil_l]
    simp
theorem allP_len (rows : List RT) (n : Nat) (w : List Int) (h1 : 1 ≤ rows.length) : (allP rows n w).length ≤ 2 * rows.length - 1 := by
  have h2 := padd_length (pmul (mA rows n w) (mB rows n w)) (scale (mC rows n w) (-1))
  rw [scale_length] at h2
  have h3 := prod_len rows n w h1
  have hc := mC_len rows n w
  unfold allP
  omega
theorem allP_at (rows : List RT) (n : Nat) (w : List Int) (hm : rows.length ≤ 16) (x : Int) : pat (allP rows n w) x = (pat (mA rows n w) x * pat (mB rows n w) x - pat (mC rows n w) x) % 1009 := by
  have ha := mA_len rows n w
  have hb := mB_len rows n w
  unfold allP
  rw [pat_add, pat_mul _ _ _ (by omega) (by omega), pat_scale]
  omega
theorem pat_nil (x : Int) : pat [] x = 0 := rfl
theorem row_at {n : Nat} {rows : List RT} (hf : Fine n rows) (w : List Int) (i : Nat) (hi : i < rows.length) : (pat (allP rows n w) ((i : Int) + 1) = 0) ↔ holds w rows[i] = true := by
  obtain ⟨⟨l0, r0⟩, ⟨l1, r1⟩, l2, r2⟩ := hf.all rows[i] (List.getElem_mem hi)
  rw [allP_at rows n w hf.m2]
  unfold mA mB mC
  rw [pat_mix, pat_mix, pat_mix]
  unfold qA qB qC colA colB colC
  rw [pat_col (fun r => r.f0) n rows hf.m2 i hi l0 r0, pat_col (fun r => r.f1) n rows hf.m2 i hi l1 r1, pat_col (fun r => r.f2) n rows hf.m2 i hi l2 r2, pat_nil]
  unfold holds
  rw [beq_iff_eq]
  have h2 := sdot_range rows[i].f2 w 0 (by omega)
  generalize sdot rows[i].f0 w 0 * sdot rows[i].f1 w 0 = u
  omega
def quot (rows : List RT) (n : Nat) (w : List Int) : List Int × List Int := pdivide (allP rows n w) (pzero (rows.length : Int))
theorem quot_none {n : Nat} {rows : List RT} (hf : Fine n rows) (w : List Int) : (quot rows n w).2 = [] ↔ rows.all (holds w) = true := by
  have hl := allP_len rows n w hf.m1
  have hm := hf.m2
  unfold quot
  rw [leaves_none _ (by omega) rows.length hm, List.all_eq_true]
  constructor
  · intro h r hr
    obtain ⟨i, hi, rfl⟩ := List.getElem_of_mem hr
    exact (row_at hf w i hi).1 (h i hi)
  · intro h i hi
    exact (row_at hf w i hi).2 (h _ (List.getElem_mem hi))
theorem quot_len {n : Nat} {rows : List RT} (hf : Fine n rows) (w : List Int) : (quot rows n w).1.length < rows.length := by
  have hl := allP_len rows n w hf.m1
  have h1 := hf.m1
  have h2 := (zero_len rows.length hf.m2).1
  have := pdivide_len (allP rows n w) (pzero (rows.length : Int))
  unfold quot
  omega
theorem quot_at {n : Nat} {rows : List RT} (hf : Fine n rows) (w : List Int) (h : rows.all (holds w) = true) (x : Int) :
    (pat (mA rows n w) x * pat (mB rows n w) x) % 1009 = (pat (mC rows n w) x + (pat (quot rows n w).1 x * pat (pzero (rows.length : Int)) x) % 1009) % 1009 := by
  have hl := allP_len rows n w hf.m1
  have hm := hf.m2
  have h1 := divide_at (allP rows n w) (pzero (rows.length : Int)) x (by omega) (by have := (zero_len rows.length hm).2; omega)
  rw [show (pdivide (allP rows n w) (pzero (rows.length : Int))).2 = [] from (quot_none hf w).2 h, pat_nil, allP_at rows n w hm] at h1
  unfold quot
  generalize pat (mA rows n w) x * pat (mB rows n w) x = u at h1 ⊢
  generalize pat (pdivide (allP rows n w) (pzero (rows.length : Int))).1 x * pat (pzero (rows.length : Int)) x = v at h1 ⊢
  omega
theorem fine_ok {n : Nat} {p : Int} {rows : List RT} {w : List Int} (h : Drawn n p rows w) : sysOk (n : Int) p rows = true := by
  have hw : ∀ xs : List Int, xs.length = n → rng xs → wide xs (n : Int) = true := by
    intro xs hl hr
    unfold wide
    rw [Bool.and_eq_true, List.all_eq_true]
    refine ⟨fun x hx => ?_, by rw [beq_iff_eq]; omega⟩
    have := hr x hx
    unfold inb
    rw [decide_eq_true this.1, decide_eq_true this.2]; rfl
  unfold sysOk
  simp only [Bool.and_eq_true, decide_eq_true_eq, List.all_eq_true]
  have h1 := h.n1
  have h2 := h.n2
  refine ⟨⟨⟨⟨⟨⟨by omega, by omega⟩, h.p0⟩, h.p1⟩, h.m1⟩, h.m2⟩, fun r hr => ?_⟩
  obtain ⟨⟨⟨l0, r0⟩, ⟨l1, r1⟩, l2, r2⟩, _⟩ := h.all r hr
  unfold rowOk
  rw [hw _ l0 r0, hw _ l1 r1, hw _ l2 r2]; rfl
theorem fine_drawn {n : Nat} {p : Int} {rows : List RT} {w : List Int} (h : Drawn n p rows w) : Fine n rows := ⟨h.n1, h.n2, h.m1, h.m2, fun r hr => (h.all r hr).1⟩
theorem all_inb {w : List Int} (h : rng w) : w.all inb = true := by
  rw [List.all_eq_true]
  intro x hx
  have := h x hx
  unfold inb
  rw [decide_eq_true this.1, decide_eq_true this.2]; rfl
theorem quot_ev {n : Nat} {p : Int} {rows : List RT} (hs : sysOk (n : Int) p rows = true) (w : List Int) (hw : w.length = n) (hr : rng w) :
    Ev (fun k => impl_QuotientOf.f k (n : Int) p rows w) (if rows.all (holds w) = true then ((quot rows n w).1, true) else ([], false)) := by
  obtain ⟨n', e, hf, K0, h0⟩ := impl_QapOf_right hs
  obtain rfl : n = n' := by omega
  have hm := hf.m2
  have hm1 := hf.m1
  have hn := hf.n2
  have la := mA_len rows n w
  have lb := mB_len rows n w
  have lc := mC_len rows n w
  have lp := prod_len rows n w hm1
  obtain ⟨K1, h1⟩ := impl_Mixed_ev (qA rows n) w 16 (by omega) (fun u hu => by have := q_len (fun r => r.f0) n rows u hu; omega) (by simp [qA]; omega)
  obtain ⟨K2, h2⟩ := impl_Mixed_ev (qB rows n) w 16 (by omega) (fun u hu => by have := q_len (fun r => r.f1) n rows u hu; omega) (by simp [qB]; omega)
  obtain ⟨K3, h3⟩ := impl_Mixed_ev (qC rows n) w 16 (by omega) (fun u hu => by have := q_len (fun r => r.f2) n rows u hu; omega) (by simp [qC]; omega)
  obtain ⟨K4, h4⟩ := impl_PolyMul_ev (mA rows n w) (mB rows n w)
  obtain ⟨K5, h5⟩ := impl_scaled_ev (mC rows n w) (-1) (by omega)
  obtain ⟨K6, h6⟩ := impl_PolyAdd_ev (pmul (mA rows n w) (mB rows n w)) (scale (mC rows n w) (-1)) (by omega) (by rw [scale_length]; omega)
  obtain ⟨K7, h7⟩ := impl_PolyZero_ev (rows.length : Int)
  obtain ⟨K8, h8⟩ := impl_PolyDivide_ev (allP rows n w) (pzero (rows.length : Int))
  refine ⟨K0 + K1 + K2 + K3 + K4 + K5 + K6 + K7 + K8 + 1048580, fun k hk => ?_⟩
  obtain ⟨k, rfl⟩ : ∃ m, k = m + 1 := ⟨k - 1, by omega⟩
  have e0 := h0 (k + 1) (by omega)
  have e1 := h1 k (by omega)
  have e2 := h2 k (by omega)
  have e3 := h3 k (by omega)
  have e4 := h4 k (by omega)
  have e5 := h5 k (by omega)
  have e6 := h6 k (by omega)
  have e7 := h7 k (by omega)
  have e8 := h8 k (by omega)
  dsimp only at e0 e1 e2 e3 e4 e5 e6 e7 e8 ⊢
  have eW : impl_isWitness.f (k + 1) (n : Int) p rows w = some true := by
    unfold impl_isWitness.f
    rw [if_pos (by omega), Sys.areScalars_f w (by omega) (k + 1) (by omega), Option.bind_some, all_inb hr]
  unfold impl_QuotientOf.f
  rw [e0, Option.bind_some, if_pos rfl, eW, Option.bind_some, Bool.not_true, impl_QuotientOf.j0, if_neg (by decide), e1, Option.bind_some, e2, Option.bind_some]
  change ((impl_PolyMul.f k (mA rows n w) (mB rows n w)).bind _) = _
  rw [e4, Option.bind_some, e3, Option.bind_some]
  change ((impl_scaled.f k (mC rows n w) (-1)).bind _) = _
  rw [e5, Option.bind_some, e6, Option.bind_some, e7, Option.bind_some]
  change ((impl_PolyDivide.f k (allP rows n w) (pzero (rows.length : Int))).bind _) = _
  rw [e8, Option.bind_some]
  by_cases c : rows.all (holds w) = true
  · rw [if_pos c, if_neg (by rw [show (pdivide (allP rows n w) (pzero (rows.length : Int))).2 = [] from (quot_none hf w).2 c]; decide)]
    rfl
  · have hne : (pdivide (allP rows n w) (pzero (rows.length : Int))).2.length ≠ 0 := fun h => c ((quot_none hf w).1 (List.eq_nil_of_length_eq_zero h))
    rw [if_neg c, if_pos (by omega)]
theorem holds_ev {n : Nat} {p : Int} {rows : List RT} (hs : sysOk (n : Int) p rows = true) (w : List Int) (hw : w.length = n) (hr : rng w) (hh : rows.all (holds w) = true) (x : Int) :
    Ev (fun k => impl_QapHolds.f k (n : Int) p rows w x) true := by
  obtain ⟨Kq, hq⟩ := quot_ev hs w hw hr
  rw [if_pos hh] at hq
  obtain ⟨n', e, hf, K0, h0⟩ := impl_QapOf_right hs
  obtain rfl : n = n' := by omega
  have hm := hf.m2
  have hm1 := hf.m1
  have hn := hf.n2
  have la := mA_len rows n w
  have lb := mB_len rows n w
  have lc := mC_len rows n w
  have lq := quot_len hf w
  have lz := (zero_len rows.length hm).2
  obtain ⟨K1, h1⟩ := impl_Mixed_ev (qA rows n) w 16 (by omega) (fun u hu => by have := q_len (fun r => r.f0) n rows u hu; omega) (by simp [qA]; omega)
  obtain ⟨K2, h2⟩ := impl_Mixed_ev (qB rows n) w 16 (by omega) (fun u hu => by have := q_len (fun r => r.f1) n rows u hu; omega) (by simp [qB]; omega)
  obtain ⟨K3, h3⟩ := impl_Mixed_ev (qC rows n) w 16 (by omega) (fun u hu => by have := q_len (fun r => r.f2) n rows u hu; omega) (by simp [qC]; omega)
  obtain ⟨K4, h4⟩ := impl_PolyAt_ev (mA rows n w) x (by omega)
  obtain ⟨K5, h5⟩ := impl_PolyAt_ev (mB rows n w) x (by omega)
  obtain ⟨K6, h6⟩ := impl_PolyAt_ev (mC rows n w) x (by omega)
  obtain ⟨K7, h7⟩ := impl_PolyZero_ev (rows.length : Int)
  obtain ⟨K8, h8⟩ := impl_PolyAt_ev (quot rows n w).1 x (by omega)
  obtain ⟨K9, h9⟩ := impl_PolyAt_ev (pzero (rows.length : Int)) x (by omega)
  refine ⟨Kq + K0 + K1 + K2 + K3 + K4 + K5 + K6 + K7 + K8 + K9, fun k hk => ?_⟩
  have eq_ := hq k (by omega)
  have e0 := h0 k (by omega)
  have e1 := h1 k (by omega)
  have e2 := h2 k (by omega)
  have e3 := h3 k (by omega)
  have e4 := h4 k (by omega)
  have e5 := h5 k (by omega)
  have e6 := h6 k (by omega)
  have e7 := h7 k (by omega)
  have e8 := h8 k (by omega)
  have e9 := h9 k (by omega)
  dsimp only at eq_ e0 e1 e2 e3 e4 e5 e6 e7 e8 e9 ⊢
  unfold impl_QapHolds.f
  rw [eq_, Option.bind_some, if_pos rfl, e0, Option.bind_some, e1, Option.bind_some]
  change ((impl_PolyAt.f k (mA rows n w) x).bind _) = _
  rw [e4, Option.bind_some, e2, Option.bind_some]
  change ((impl_PolyAt.f k (mB rows n w) x).bind _) = _
  rw [e5, Option.bind_some, impl_ScMul_eq, Option.bind_some, e8, Option.bind_some, e7, Option.bind_some, e9, Option.bind_some, impl_ScMul_eq, Option.bind_some, e3, Option.bind_some]
  change ((impl_PolyAt.f k (mC rows n w) x).bind _) = _
  rw [e6, Option.bind_some, impl_ScAdd_eq, Option.bind_some, ← quot_at hf w hh x, beq_self_eq_true]
end Go.Proofs.Ytcnejiflpioaiaa.Qap
end
section
set_option linter.unusedVariables false
set_option linter.unusedSimpArgs false
namespace Go.Proofs.Ytcnejiflpioaiaa.Pure
open Go.RowKit Go.Proofs.Ytcnejiflpioaiaa.Pf Go.Proofs.YtcnejiflpioaiaaW.PrintWords Go.Proofs.Ytcnejiflpioaiaa.Ints Go.Proofs.Ytcnejiflpioaiaa.Poly Go.Proofs.Ytcnejiflpioaiaa.Qap
open Go.Proofs.Ytcnejiflpioaiaa.Sys (RT rdT sysOk)
open Go.Proofs.Ytcnejiflpioaiaa.Draw (new_ev ok0 places_ev)
set_option maxRecDepth 4000
theorem qaps_l0 {n : Nat} {p : Int} {rows : List RT} {w : List Int} (hd : Drawn n p rows w) (ps : List Int) (hp : ps.length = 12) (bent : List Int) (may : Bool) : ∀ (d j : Nat) (u : Bool), j + d = rows.length → may = (u && (rows.drop j).all (holds bent)) →
    Ev (fun k => laws_FnQaps.l0 k w ps (quot rows n w).1 true bent may u (j : Int) (n : Int) p rows) true
  | 0, j, u, hj, hm => by
    obtain ⟨K, h⟩ := holds_ev (fine_ok hd) w hd.wl hd.wr (List.all_eq_true.2 fun r hr => (hd.all r hr).2) (rd ps 2)
    have hq := quot_len (fine_drawn hd) w
    refine ⟨K + 1, fun k hk => ?_⟩
    obtain ⟨k, rfl⟩ : ∃ m, k = m + 1 := ⟨k - 1, by omega⟩
    have e := h k (by omega)
    dsimp only at e
    rw [List.drop_of_length_le (by omega)] at hm
    simp only [laws_FnQaps.l0]
    rw [if_neg (by omega), if_pos trivial, if_pos (by omega), if_pos (by omega), e, Option.bind_some, if_pos rfl, hm]
    cases u <;> rfl
  | d + 1, j, u, hj, hm => by
    have hlt : j < rows.length := by omega
    have m2 := hd.m2
    have n2 := hd.n2
    obtain ⟨⟨⟨l0, _⟩, ⟨l1, _⟩, l2, _⟩, _⟩ := hd.all rows[j] (List.getElem_mem hlt)
    rw [List.drop_eq_getElem_cons hlt, List.all_cons] at hm
    obtain ⟨K, h⟩ := qaps_l0 hd ps hp bent may d (j + 1) (u && holds bent rows[j]) (by omega) (by rw [hm, Bool.and_assoc])
    refine ⟨K + 1000, fun k hk => ?_⟩
    obtain ⟨k, rfl⟩ : ∃ m, k = m + 1 := ⟨k - 1, by omega⟩
    have e := h k (by omega)
    dsimp only at e ⊢
    rw [← e]
    simp only [laws_FnQaps.l0]
    rw [if_pos (by omega), if_pos (by omega), rdT hlt, specDot_f _ bent (by omega) k (by omega), specDot_f _ bent (by omega) k (by omega), specDot_f _ bent (by omega) k (by omega)]
    simp only [Option.bind_some, spec_ScMul_eq]
    rw [wrap_in (by omega) (by omega), show (j : Int) + 1 = ((j + 1 : Nat) : Int) by omega]
    cases u
    · rw [if_neg (by decide)]; rfl
    · rw [if_pos rfl]; rfl
theorem FnQaps : laws_FnQaps.Pure := by
  intro b hb _ _
  unfold maxLen at hb
  by_cases hbig : (b.length : Int) > 1048576
  · exact ⟨0, by simp only [laws_FnQaps.f, laws_big.f, Option.bind_some]; rw [if_pos (decide_eq_true hbig)]⟩
  obtain ⟨h, K0, h0⟩ := new_ev b (by omega)
  obtain ⟨n, p, rows, w, i1, h1, hd, _, K1, e1⟩ := system_some b 0 h (ok0 b (by omega))
  obtain ⟨ps, hp, hr, K2, e2⟩ := places_ev b (by omega)
  obtain ⟨K3, e3⟩ := quot_ev (fine_ok hd) w hd.wl hd.wr
  rw [if_pos (List.all_eq_true.2 fun r hr => (hd.all r hr).2)] at e3
  have n1 := hd.n1
  have n2 := hd.n2
  have wl := hd.wl
  have rp : ∀ j : Nat, j < 12 → 0 ≤ rd ps (j : Int) := fun j hj => by
    rw [rd_at, at_lt (by omega)]
    exact (hr _ (List.getElem_mem (by omega))).1
  have r0 : 0 ≤ rd ps 0 := rp 0 (by decide)
  have r1 : 0 ≤ rd ps 1 := rp 1 (by decide)
  obtain ⟨i, hi, hin⟩ : ∃ i : Nat, Int.tmod (rd ps 0) (w.length : Int) = (i : Int) ∧ i < n := by
    have a := Int.tmod_nonneg (w.length : Int) r0
    have c := Int.tmod_lt_of_pos (rd ps 0) (show (0 : Int) < (w.length : Int) by omega)
    exact ⟨(Int.tmod (rd ps 0) (w.length : Int)).toNat, by omega, by omega⟩
  obtain ⟨v, hv⟩ : ∃ v, v = (rd w (i : Int) + wrap64 (1 + Int.tmod (rd ps 1) 1008)) % 1009 := ⟨_, rfl⟩
  obtain ⟨K4, e4⟩ := quot_ev (fine_ok hd) (w.set i v) (by rw [List.length_set]; exact wl) (rng_set hd.wr i v (by omega) (by omega))
  obtain ⟨K5, e5⟩ := qaps_l0 hd ps hp (w.set i v) (rows.all (holds (w.set i v))) rows.length 0 true (by omega) (by simp)
  refine ⟨K0 + K1 + K2 + K3 + K4 + K5, ?_⟩
  obtain ⟨k, hk⟩ : ∃ k, k = K0 + K1 + K2 + K3 + K4 + K5 := ⟨_, rfl⟩
  rw [← hk]
  have g0 := h0 k (by omega)
  have g1 := e1 k (by omega)
  have g2 := e2 k (by omega)
  have g3 := e3 k (by omega)
  have g4 := e4 k (by omega)
  have g5 := e5 k (by omega)
  dsimp only at g0 g1 g2 g3 g4 g5
  have gS : spec_DrawSystem.f k b = some ((n : Int), p, rows, w) := by
    unfold spec_DrawSystem.f
    rw [g0, Option.bind_some, g1]; rfl
  have e6 : (if rows.all (holds (w.set i v)) = true then ((quot rows n (w.set i v)).1, true) else (([] : List Int), false)).2 = rows.all (holds (w.set i v)) := by
    by_cases c : rows.all (holds (w.set i v)) = true
    · rw [if_pos c, c]
    · rw [if_neg c]; simpa using c
  unfold laws_FnQaps.f
  simp only [laws_big.f, Option.bind_some]
  rw [decide_eq_false hbig, if_neg (by decide), gS, Option.bind_some, g2, Option.bind_some, g3, Option.bind_some, if_pos (show ([] : List Int).length + w.length < 17592186044416 by simp; omega)]
  simp only [List.nil_append, hi]
  have c1 : (0 : Int) < (ps.length : Int) := by omega
  have c2 : ¬ (w.length : Int) = 0 := by omega
  have c3 : (0 : Int) ≤ (i : Int) := by omega
  have c4 : (i : Int) < (w.length : Int) := by omega
  have c5 : (1 : Int) < (ps.length : Int) := by omega
  rw [if_pos c1, if_neg c2, if_pos c3, if_pos c4, if_pos c5, spec_ScAdd_eq, Option.bind_some, ← hv, Int.toNat_natCast, g4, Option.bind_some, e6]
  exact g5
end Go.Proofs.Ytcnejiflpioaiaa.Pure
end
section
namespace Go.Proofs.Ytcnejiflpioaiaa.fnQaps
open Go.ChangeShapes Go.WideShapes Go.ChangeAt Go.RowKit
open Go.ChangeMaps (open_string shut_string)
set_option linter.unusedVariables false
theorem own : ownKnob Try.prog.godebug = none := by kernel_rfl
theorem laidOut : laidOutB Try.prog = true := by kernel_rfl
def IsRow (k : IntKind) (w : World) (a : Option Addr) (len cap : Nat) (zs : List Int) : Prop :=
  (a = none ∧ len = 0 ∧ cap = 0 ∧ zs = []) ∨
  ∃ x, a = some x ∧ len ≤ cap ∧ cap ≤ maxLen ∧ zs.length = cap ∧ (∀ i, i < zs.length → w.cell? (x.add i) = some (.int k (zs.getD i 0))) ∧ ∀ n ∈ zs, (Lit.int k n).wf = true
set_option maxRecDepth 100000 in
theorem lifted (os : Os) (started : os.Started) (H : Type) (enc : TypeId × Value → H) :
    ReturnsInHanded {} Try.checked os 5 .any (Rows.fnQapsSpec.pre6 enc Try.prog Try.f5 Rows.fnQapsRow.domain false) (Rows.fnQapsSpec.post enc Try.prog Try.f5 false true false false) := by
  refine returnsInHanded_of_change_sized (C := Try.checked) own started (by kernel_rfl) Try.func5
    (ChangeSpec.witness6 (enc := enc) (C := Try.checked) false ⟨#[], #[.slice none 0 0], []⟩ 8 (by kernel_rfl) (by kernel_rfl) (by kernel_rfl) (by kernel_rfl)) ?_
  intro W base args ds gs before hval0 hW hcnd hsz0 _
  have hsz : (DataW.weightsEach Try.prog (Try.f5.params.toList ++ Rows.fnQapsSpec.plain.varTypes Try.prog) (ds ++ gs)).all (· ≤ reachBytes) = true := hsz0
  have hval : ∀ (j : Nat) t v, Try.f5.params[j]? = some t → args[j]? = some v → Value.okWide Try.prog W .any base t v := hval0
  have hW' := hW
  obtain ⟨p, q, hA0, hV, rfl, hfz, hnd⟩ := hW
  have hA : DataW.TrodAll enc Try.prog W 0 (fun _ => true) true Try.f5.params.toList args.toList ds p := hA0
  rw [Try.params5] at hA hval hsz
  obtain ⟨v0, vs0, d0, ds0, p0, q0, hargs, rfl, rfl, h0, r0⟩ := trodAll_cons hA
  obtain ⟨rfl, rfl, rfl⟩ := trodAll_nil r0
  obtain rfl : args = #[v0] := by cases args; simp_all
  obtain ⟨rfl, rfl⟩ := trodVars_none hV
  obtain ⟨a0, len0, cap0, rfl⟩ := okWide_slice Try.underlying28 (hval 0 28 v0 rfl rfl)
  have k0 := h0
  have lt0 : ∀ x ∈ p0, x.block < W.heap.size := by obtain ⟨m, hm⟩ := k0; exact DataW.trod_lt m _ _ _ hm
  obtain ⟨z0, w0⟩ : ∃ zs, IsRow .u8 W a0 len0 cap0 zs := by
    obtain ⟨fuel, hf⟩ := h0
    rcases open_ints Try.underlying28 Try.underlying5 (by kernel_rfl) hf with ⟨hcs, _⟩ | ⟨x, l, c, zs, hcs, _, hl, hm, hz, _, hcell, hwz⟩
    · simp [Value.cells] at hcs
      obtain ⟨rfl, rfl, rfl⟩ := hcs
      exact ⟨[], .inl ⟨rfl, rfl, rfl, rfl⟩⟩
    · simp [Value.cells] at hcs
      obtain ⟨rfl, rfl, rfl⟩ := hcs
      exact ⟨zs, .inr ⟨_, rfl, hl, hm, by simpa using hz, hcell, hwz⟩⟩
  have y0 : len0 * 1 ≤ 140737488351232 := Go.Proofs.YtcnejiflpioaiaaW.PrintWords.sized_ints hsz (j := 0) (t := 28) rfl rfl Try.underlying28 Try.underlying5 (by kernel_rfl) (by kernel_rfl) h0
  clear hA0 hval0 hsz0 hsz
  refine (Pf.laws_FnQaps.walk Pure.FnQaps a0 len0 cap0 z0 W w0 y0).mono fun e W' ⟨he, bel⟩ => ?_
  subst he
  exact ⟨_, rfl, _, _, _, [], _, [], hW', trodAll_mk1 (shut_bool Try.underlying4 _), (trodAll_cons_mk (Below.trod laidOut (by kernel_rfl) (of_decide_eq_true (by kernel_rfl)) k0 bel lt0) trodAll_mk0), rfl, bel.frame _, fun h => by cases h⟩
theorem over : Rows.fnQapsRow.holds Try.pinned (OpenSpec.ofChange Rows.fnQapsSpec) :=
  OpenClaim.holds_of_wide 5 Try.f5 rfl rfl rfl rfl rfl rfl rfl ⟨rfl, rfl, rfl, rfl, rfl⟩ rfl rfl rfl rfl rfl (by kernel_rfl) Try.func5 (by kernel_rfl)
    (of_decide_eq_true (by kernel_rfl)) (by unfold Func.isWrapper; first | (rw [if_pos (by decide +kernel)]; kernel_rfl) | (rw [if_neg (by decide +kernel)]; exact ⟨rfl, rfl⟩))
    (fun os started H enc _ => lifted os started H enc)
theorem proved : Rows.FnQapsSaid := over
#print axioms proved
end Go.Proofs.Ytcnejiflpioaiaa.fnQaps
namespace Go.Proofs.Ytcnejiflpioaiaa
theorem fnQaps_holds : Rows.FnQapsSaid := fnQaps.proved
end Go.Proofs.Ytcnejiflpioaiaa
end
