/- What is proved here: part 2 of 4 of the proof of the given statement FnQaps: the contracts of the Go functions that it reaches, the plain facts on lists and numbers, and (in the last part) the statement itself. No conditions beyond the given ones. -/
import Derived.Test.YtcnejiflpioaiaaMFnQapswSlim
import Derived.Test.YtcnejiflpioaiaaMFnQapsa

section
namespace Go.Proofs.Ytcnejiflpioaiaa.Pf
open Go.RowKit Go.Proofs.YtcnejiflpioaiaaW.PrintWords Go.Proofs.YtcnejiflpioaiaaW.PrintLast Go.Proofs.YtcnejiflpioaiaaW.PrintMore
attribute [local go_sem] max2_int min2_int max_two min_two max_three min_three max_four min_four   -- for this text's walks alone
set_option linter.unusedVariables false
set_option linter.unusedSimpArgs false
mutual
def spec_l13System.l0 : Nat → Int → List Int → List Int → Int → Int → Option (Int × Int × (List (S40)) × List Int × Int × Int)
 | 0, _, _, _, _, _ => none
 | k + 1, x5, x6, x1000, x1001, x1002 => if (x6.length : Int) < x5 then ((spec_l06Num.f x1000 x1001 x1002).bind fun bt239 => ((spec_ScOf.f bt239.1).bind fun t242 => (if x6.length < 17592186044416 then (spec_l13System.l0 k x5 (x6 ++ [t242]) x1000 bt239.2.1 bt239.2.2) else (none)))) else ((spec_l01Below.f x1000 x1001 x1002 x5).bind fun bt246 => (spec_l13System.l1 k x5 x6 0 x1000 bt246.2.1 bt246.2.2 x5 bt246.1 ([] : List (S40))))
def spec_l13System.l1 : Nat → Int → List Int → Int → List Int → Int → Int → Int → Int → List (S40) → Option (Int × Int × (List (S40)) × List Int × Int × Int)
 | 0, _, _, _, _, _, _, _, _, _ => none
 | k + 1, x5, x6, x8, x1000, x1001, x1002, x250000, x250001, x250002 => (spec_l01Below.f x1000 x1001 x1002 4).bind fun bt250 => (if x8 < (wrap64 (1 + bt250.1)) then ((spec_l13Row.f x5).bind fun bt253 => (spec_l13System.l2 k x5 x6 x8 0 x1000 bt250.2.1 bt250.2.2 x250000 x250001 x250002 bt253.1 bt253.2.1 bt253.2.2)) else (some (x250000, x250001, x250002, x6, bt250.2.1, bt250.2.2)))
def spec_l13System.l2 : Nat → Int → List Int → Int → Int → List Int → Int → Int → Int → Int → List (S40) → List Int → List Int → List Int → Option (Int × Int × (List (S40)) × List Int × Int × Int)
 | 0, _, _, _, _, _, _, _, _, _, _, _, _, _ => none
 | k + 1, x5, x6, x8, x10, x1000, x1001, x1002, x250000, x250001, x250002, x263000, x263001, x263002 => if x10 < x5 then ((spec_l01Below.f x1000 x1001 x1002 3).bind fun bt263 => (if 0 ≤ x10 then (if x10 < (x263000.length : Int) then ((spec_l01Below.f x1000 bt263.2.1 bt263.2.2 3).bind fun bt267 => (if x10 < (x263001.length : Int) then (spec_l13System.l2 k x5 x6 x8 (wrap64 (x10 + 1)) x1000 bt267.2.1 bt267.2.2 x250000 x250001 x250002 (x263000.set (x10 : Int).toNat bt263.1) (x263001.set (x10 : Int).toNat bt267.1) x263002) else (none))) else (none)) else (none))) else ((spec_ScDot.f k x263000 x6).bind fun t271 => ((spec_ScDot.f k x263001 x6).bind fun t272 => ((spec_ScMul.f t271 t272).bind fun t273 => (if 0 < (x263002.length : Int) then (if x250002.length < 1954687338268 then (spec_l13System.l1 k x5 x6 (wrap64 (x8 + 1)) x1000 x1001 x1002 x250000 x250001 (x250002 ++ [(⟨x263000, x263001, (x263002.set (0 : Int).toNat t273)⟩ : S40)])) else (none)) else (none)))))
end
def spec_l13System.f (k : Nat) (s0_0 : List Int) (s0_1 : Int) (s0_2 : Int) : Option (Int × Int × (List (S40)) × List Int × Int × Int) := (spec_l01Once.f s0_0 s0_1 s0_2 3).bind fun bt219 => (if bt219.1 = true then ((spec_l01Below.f s0_0 bt219.2.1 bt219.2.2 256).bind fun bt222 => ((spec_CountSystem.f k).bind fun bt225 => ((spec_CountWitness.f k bt222.1).bind fun t230 => (some (bt225.1, bt225.2.1, bt225.2.2, t230, bt222.2.1, bt222.2.2))))) else ((spec_l01Below.f s0_0 bt219.2.1 bt219.2.2 4).bind fun bt233 => (spec_l13System.l0 k (wrap64 (2 + bt233.1)) (([1] : List Int)) s0_0 bt233.2.1 bt233.2.2)))
def spec_l13System.T18 : Bool × List (List Nat × List Nat) := (true, [([], []), ([0], [0]), ([], []), ([2], [2]), ([], []), ([3, 4], [3, 4]), ([], []), ([6], [6]), ([], []), ([7, 8, 5], [7, 8]), ([5, 9, 9], [5, 9]), ([1, 0, 1, 2, 3, 4, 5, 6, 7, 8, 9, 10], [1]), ([11, 10, 10, 0, 1, 2, 3, 4, 5, 6, 7, 8, 9, 10], [10, 11])])
def spec_l13System.B18 : List Nat := [0, 1, 0, 4, 0, 28, 0, 64, 0, 508, 1020, 2047, 4095]
theorem spec_l13System.tab18 : rtab .any (opsOf Try.f64 18) = spec_l13System.T18 := by kernel_rfl
theorem spec_l13System.bits18 : waitsOk spec_l13System.T18.2 spec_l13System.B18 = true := by kernel_rfl
set_option maxHeartbeats 8000000 in
set_option maxRecDepth 100000 in
theorem spec_l13System.calls (k : Nat) (g : Nat) (s0_0 : List Int) (s0_1 : Int) (s0_2 : Int) (r1 : Int) (r2 : Int) (r3 : List (S40)) (r4 : List Int) (r5 : Int) (r6 : Int) (w0 w : World) (hI : IsS88 w0 w g s0_0 s0_1 s0_2) (hB : Below w0.heap.size w0 w) (h : spec_l13System.f k s0_0 s0_1 s0_2 = some (r1, r2, r3, r4, r5, r6)) :
  Calls Try.prog 64 #[.pointer (some ⟨g, 0, none⟩)] w fun e w' => ∃ v2_ v3_ : Value, e = .returned (.tuple #[.agg #[.int .i64 r1, .int .i64 r2, v2_], v3_]) ∧ Kd.N k40 40 w' w.heap.size (fun k_ => (w.heap.size ≤ k_) ∧ some k_ ≠ (v3_ : Value).ownBlock) v2_ r3 ∧ Kd.R (Kd.int .i64) 3 w' w.heap.size (fun k_ => (w.heap.size ≤ k_)) v3_ r4 ∧ IsS88 w0 w' g s0_0 r5 r6 ∧ Below w0.heap.size w0 w' ∧ KeepBut w w' g none := by
 have hu32 := Try.underlying32
 have hu40 := Try.underlying40
 have HI0 := Aside0.mk hI
 have HK := Aside0.mk (KeepBut.refl w g none)
 have HL := Aside0.mk hB.size
 clear hI
 have HW0 := Aside0.mk hB.size
 have HB := Aside0.mk hB
 clear hB
 have H : ((spec_l01Once.f s0_0 s0_1 s0_2 3).bind fun bt219 => (if bt219.1 = true then ((spec_l01Below.f s0_0 bt219.2.1 bt219.2.2 256).bind fun bt222 => ((spec_CountSystem.f k).bind fun bt225 => ((spec_CountWitness.f k bt222.1).bind fun t230 => (some (bt225.1, bt225.2.1, bt225.2.2, t230, bt222.2.1, bt222.2.2))))) else ((spec_l01Below.f s0_0 bt219.2.1 bt219.2.2 4).bind fun bt233 => (spec_l13System.l0 k (wrap64 (2 + bt233.1)) (([1] : List Int)) s0_0 bt233.2.1 bt233.2.2)))) = some (r1, r2, r3, r4, r5, r6) := h
 clear h
 replace H := Option.bind_eq_some_iff.mp H
 obtain ⟨⟨t219, t220, t221⟩, A20, H⟩ := H
 have A2 := Aside0.mk A20
 clear A20
 by_cases c3 : t219 = true
 ·subst c3
  rw [if_pos rfl] at H
  replace H := Option.bind_eq_some_iff.mp H
  obtain ⟨⟨t222, t223, t224⟩, A40, H⟩ := H
  have A4 := Aside0.mk A40
  clear A40
  replace H := Option.bind_eq_some_iff.mp H
  obtain ⟨⟨t225, t226, t227⟩, A50, H⟩ := H
  have A5 := Aside0.mk A50
  clear A50
  replace H := Option.bind_eq_some_iff.mp H
  obtain ⟨t230, A60, H⟩ := H
  have A6 := Aside0.mk A60
  clear A60
  simp only [Option.some.injEq, Prod.mk.injEq] at H
  obtain ⟨rfl, rfl, rfl, rfl, rfl, rfl⟩ := H
  go_enter Try.func64, Try.ntmps64
  go_wp2_with (first | ((with_reducible refine gate_dst (N := 2) rfl ?_); refine bE 2 #[.int .i64 0, .int .i64 0, .slice none 0 0] 32 ?_; intro gb218 hg w7 hbox hb; replace HB := Aside0.mk (below_step (jZ88 HB HI0) hb); have BK218 := Aside0.mk (hbox); have GW218 := Aside0.mk ((by rw [hg]; exact (keep_size (w := w) (g := g) (row := none) (kZ HK)) : w.heap.size ≤ gb218)); have GE218 := Aside0.mk ((Nat.le_trans HW0.out (by rw [hg]; exact (keep_size (w := w) (g := g) (row := none) (kZ HK)) : w.heap.size ≤ gb218) : w0.heap.size ≤ gb218)); replace HK := Aside0.mk (KeepBut.trans (kZ HK) (KeepBut.of_below hb g none) (.inl rfl)); have NB0_218 := Aside0.mk ((by rw [hg]; exact Nat.ne_of_lt (IsS88.lt (show IsS88 w0 _ g s0_0 s0_1 s0_2 from iZ88 HI0)) : g ≠ gb218)); have NB218_0 := Aside0.mk ((by rw [hg]; exact Nat.ne_of_gt (IsS88.lt (show IsS88 w0 _ g s0_0 s0_1 s0_2 from iZ88 HI0)) : gb218 ≠ g)); replace HI0 := Aside0.mk (IsS88.below (iZ88 HI0) hb); clear hb hbox hg) | (refine gC (some 12) Try.func77 #[.pointer (some ⟨g, 0, none⟩), .int .i64 3] ?_; (with_reducible refine (spec_l01Once.calls g s0_0 s0_1 s0_2 3 true t220 t221 w0 _ ?side1 ?side2 A2.out).mono ?_); (case side1 => exact iZ88 HI0); (case side2 => exact jZ88 HB HI0); rintro e w8 ⟨rfl, hi, hb, hk⟩; refine ⟨_, rfl, ?_⟩; replace BK218 := Aside0.mk (KeepBut.blk hk (g' := gb218) (o := .cells #[.int .i64 0, .int .i64 0, .slice none 0 0] 32 (0, 0)) (bP BK218) NB218_0.out (by simp)); replace HK := Aside0.mk (KeepBut.trans (kZ HK) hk (.inl rfl)); replace HB := Aside0.mk (hb); replace HI0 := Aside0.mk (hi); (try clear hb)) | (refine gC (some 14) Try.func67 #[.pointer (some ⟨g, 0, none⟩), .int .i64 256] ?_; (with_reducible refine (spec_l01Below.calls g s0_0 t220 t221 256 t222 t223 t224 w0 _ ?side1 ?side2 A4.out).mono ?_); (case side1 => exact iZ88 HI0); (case side2 => exact jZ88 HB HI0); rintro e w9 ⟨rfl, hi, hb, hk⟩; refine ⟨_, rfl, ?_⟩; replace BK218 := Aside0.mk (KeepBut.blk hk (g' := gb218) (o := .cells #[.int .i64 0, .int .i64 0, .slice none 0 0] 32 (0, 0)) (bP BK218) NB218_0.out (by simp)); replace HK := Aside0.mk (KeepBut.trans (kZ HK) hk (.inl rfl)); replace HB := Aside0.mk (hb); replace HI0 := Aside0.mk (hi); (try clear hb)) | (refine gC (some 15) Try.func88 #[] ?_; (with_reducible refine (spec_CountSystem.calls k  t225 t226 t227 _ A5.out).mono ?_); rintro e w10 ⟨v228, rfl, ho0, hb⟩; refine ⟨_, rfl, ?_⟩; have HO229 := Aside0.mk (Kd.N_lower (Kd.N_mono (ok' := fun k_ => (w.heap.size ≤ k_) ∧ k_ ≠ gb218 ∧ k_ ≠ g) ho0 (fun k_ hk_ => ⟨(Nat.le_trans (keep_size (w := w) (g := g) (row := none) (kZ HK)) hk_), (Kd.freshB (bP BK218) k_ hk_), (IsS88.fresh (iZ88 HI0) k_ hk_)⟩)) (keep_size (w := w) (g := g) (row := none) (kZ HK))); replace BK218 := bB BK218 hb; replace HK := Aside0.mk (KeepBut.trans (kZ HK) (KeepBut.of_below hb g none) (.inl rfl)); replace HB := Aside0.mk (below_step (jZ88 HB HI0) hb); replace HI0 := Aside0.mk (IsS88.below (iZ88 HI0) hb); (try clear hb); (try clear ho0)) | (refine gC (some 17) Try.func89 #[.int .i64 t222] ?_; (with_reducible refine (spec_CountWitness.calls k t222 t230 _ A6.out).mono ?_); rintro e w11 ⟨v231, rfl, ho0, hb⟩; refine ⟨_, rfl, ?_⟩; replace HO229 := Aside0.mk (Kd.N_elder' (by (with_reducible repeat (first | apply Kd.N_alloc | apply Kd.N_drewN | apply Kd.N_drew)); exact HO229.out) (Kd.R_base ho0) hb); have HO232 := Aside0.mk (Kd.R_lower (Kd.R_newM (M := fun k_ => (w.heap.size ≤ k_)) ho0 (keep_size (w := w) (g := g) (row := none) (kZ HK)) (fun k_ h_ => h_)) (keep_size (w := w) (g := g) (row := none) (kZ HK))); replace BK218 := bB BK218 hb; replace HK := Aside0.mk (KeepBut.trans (kZ HK) (KeepBut.of_below hb g none) (.inl rfl)); replace HB := Aside0.mk (below_step (jZ88 HB HI0) hb); replace HI0 := Aside0.mk (IsS88.below (iZ88 HI0) hb); (try clear hb); (try clear ho0); obtain ⟨hnb12, hnc12⟩ := nB NB218_0; obtain ⟨hcz13_0, hcz13_1, hcz13_2, hfz13_0, hfz13_1, hfz13_2⟩ := bK3 (w := w11) BK218; obtain ⟨Ao14, co14, eo14⟩ := Kd.N_slice HO229.out; subst eo14))
  refine bodyPost_ret (results_ct rfl _ _ gb218 32 #[.int .i64 t225, .int .i64 t226, .slice Ao14 t227.length co14] (0, 0) _ rfl (bU BK218) Try.underlying32 rfl (by kernel_rfl)) rfl ?_
  exact ⟨_, _, by first | rfl | (simp [errW_none, errW_some] <;> rfl) | (simp [*, errW_none, errW_some] <;> rfl), by (with_reducible repeat (first | apply Kd.N_alloc | apply Kd.N_drewN | apply Kd.N_drew)); exact Kd.N_mono (Kd.N_far (p := ⟨gb218, 2, none⟩) (Kd.N_far (p := ⟨gb218, 1, none⟩) (Kd.N_far (p := ⟨gb218, 0, none⟩) (Kd.N_mono HO229.out (fun k_ hk => (⟨hk, hk.1.2.1⟩ : _ ∧ k_ ≠ gb218))) (fun _ hk => hk.2) (.int .i64 t225)) (fun _ hk => hk.2) (.int .i64 t226)) (fun _ hk => hk.2) (.slice Ao14 t227.length co14)) (fun _ hk => ⟨hk.1.1.1, hk.1.2⟩), by (with_reducible repeat (first | apply Kd.R_alloc | apply Kd.R_drewN | apply Kd.R_drew)); exact Kd.R_mono (Kd.R_far (p := ⟨gb218, 2, none⟩) (Kd.R_far (p := ⟨gb218, 1, none⟩) (Kd.R_far (p := ⟨gb218, 0, none⟩) (Kd.R_types HO232.out BK218.out (by decide)) (fun _ hk => hk.2) (.int .i64 t225)) (fun _ hk => hk.2) (.int .i64 t226)) (fun _ hk => hk.2) (.slice Ao14 t227.length co14)) (fun _ hk => hk.1.1), iZ88 HI0, jZ88 HB HI0, kZ HK⟩
 ·replace c3 := Bool.eq_false_iff.mpr c3
  subst c3
  rw [if_neg (show ¬ (false = true) by decide)] at H
  replace H := Option.bind_eq_some_iff.mp H
  obtain ⟨⟨t233, t234, t235⟩, A150, H⟩ := H
  have A15 := Aside0.mk A150
  clear A150
  obtain ⟨y236, hy236⟩ : ∃ y_ : List Int, y_ = (([1] : List Int)) := ⟨_, rfl⟩
  replace H : (spec_l13System.l0 k (wrap64 (2 + t233)) y236 s0_0 t234 t235) = some (r1, r2, r3, r4, r5, r6) := by first | (rw [hy236]; with_reducible exact H) | (have H2_ := (Option.bind_some _ _).symm.trans H; rw [hy236]; with_reducible exact H2_) | (have H2_ := (Option.bind_some _ _).symm.trans H; with_reducible exact H2_) | with_reducible exact H | (rw [hy236]; exact H) | exact H
  have Ny236 := Aside0.mk hy236
  clear hy236
  have H' := Aside0.mk H
  clear H
  go_enter Try.func64, Try.ntmps64
  go_wp2_with (first | ((with_reducible refine gate_dst (N := 2) rfl ?_); refine bE 2 #[.int .i64 0, .int .i64 0, .slice none 0 0] 32 ?_; intro gb218 hg w16 hbox hb; replace HB := Aside0.mk (below_step (jZ88 HB HI0) hb); have BK218 := Aside0.mk (hbox); have GW218 := Aside0.mk ((by rw [hg]; exact (keep_size (w := w) (g := g) (row := none) (kZ HK)) : w.heap.size ≤ gb218)); have GE218 := Aside0.mk ((Nat.le_trans HW0.out (by rw [hg]; exact (keep_size (w := w) (g := g) (row := none) (kZ HK)) : w.heap.size ≤ gb218) : w0.heap.size ≤ gb218)); replace HK := Aside0.mk (KeepBut.trans (kZ HK) (KeepBut.of_below hb g none) (.inl rfl)); have NB0_218 := Aside0.mk ((by rw [hg]; exact Nat.ne_of_lt (IsS88.lt (show IsS88 w0 _ g s0_0 s0_1 s0_2 from iZ88 HI0)) : g ≠ gb218)); have NB218_0 := Aside0.mk ((by rw [hg]; exact Nat.ne_of_gt (IsS88.lt (show IsS88 w0 _ g s0_0 s0_1 s0_2 from iZ88 HI0)) : gb218 ≠ g)); replace HI0 := Aside0.mk (IsS88.below (iZ88 HI0) hb); clear hb hbox hg) | (refine gC (some 12) Try.func77 #[.pointer (some ⟨g, 0, none⟩), .int .i64 3] ?_; (with_reducible refine (spec_l01Once.calls g s0_0 s0_1 s0_2 3 false t220 t221 w0 _ ?side1 ?side2 A2.out).mono ?_); (case side1 => exact iZ88 HI0); (case side2 => exact jZ88 HB HI0); rintro e w17 ⟨rfl, hi, hb, hk⟩; refine ⟨_, rfl, ?_⟩; replace BK218 := Aside0.mk (KeepBut.blk hk (g' := gb218) (o := .cells #[.int .i64 0, .int .i64 0, .slice none 0 0] 32 (0, 0)) (bP BK218) NB218_0.out (by simp)); replace HK := Aside0.mk (KeepBut.trans (kZ HK) hk (.inl rfl)); replace HB := Aside0.mk (hb); replace HI0 := Aside0.mk (hi); (try clear hb)) | (refine gC (some 19) Try.func67 #[.pointer (some ⟨g, 0, none⟩), .int .i64 4] ?_; (with_reducible refine (spec_l01Below.calls g s0_0 t220 t221 4 t233 t234 t235 w0 _ ?side1 ?side2 A15.out).mono ?_); (case side1 => exact iZ88 HI0); (case side2 => exact jZ88 HB HI0); rintro e w18 ⟨rfl, hi, hb, hk⟩; refine ⟨_, rfl, ?_⟩; replace BK218 := Aside0.mk (KeepBut.blk hk (g' := gb218) (o := .cells #[.int .i64 0, .int .i64 0, .slice none 0 0] 32 (0, 0)) (bP BK218) NB218_0.out (by simp)); replace HK := Aside0.mk (KeepBut.trans (kZ HK) hk (.inl rfl)); replace HB := Aside0.mk (hb); replace HI0 := Aside0.mk (hi); (try clear hb)) | ((with_reducible refine gate_dst (N := 21) rfl ?_); refine Kd.R_lit (Kd.int .i64) _ 3 ?hg (N := 21) ?hd (xs := ([1] : List Int)) (inner := [.int .i64 1]) (ok := fun _ => True) (okp := fun _ => True) ?hr ?hp (fun _ hk => hk) trivial (Below.refl _ _) (Nat.le_refl _) (by simp) ?_; (case hd => rfl); (case hg => rfl); (case hr => first | (go_simp; done) | (go_simp; rfl)); (case hp => exact (Reps.one (show Kd.M (Kd.int .i64) _ _ _ 1 [.int .i64 1] from rfl) (Reps.none _ _))); intro v237 w19 ho20 hb hg_ hnew_; clear hg_ hnew_; (first | rw [← Ny236.out] at ho20 | (simp only [Int.reduceToNat] at ho20; rw [← Ny236.out] at ho20)); have HO238 := Aside0.mk (Kd.R_lower (Kd.R_newM (M := fun k_ => (w.heap.size ≤ k_)) ho20 (keep_size (w := w) (g := g) (row := none) (kZ HK)) (fun k_ h_ => h_)) (keep_size (w := w) (g := g) (row := none) (kZ HK))); replace BK218 := bB BK218 hb; replace HK := Aside0.mk (KeepBut.trans (kZ HK) (KeepBut.of_below hb g none) (.inl rfl)); replace HB := Aside0.mk (below_step (jZ88 HB HI0) hb); replace HI0 := Aside0.mk (IsS88.below (iZ88 HI0) hb); clear hb ho20))
  go_loopg [6] k (fun kq v6 w' => ∃ (x6_1 : List Int) (x1001_1 : Int) (x1002_1 : Int), Aside0 (spec_l13System.l0 kq (wrap64 (2 + t233)) x6_1 s0_0 x1001_1 x1002_1 = some (r1, r2, r3, r4, r5, r6)) ∧ Aside0 (kq ≤ k) ∧ Aside0 (Kd.R (Kd.int .i64) 3 w' w.heap.size (fun k_ => (w.heap.size ≤ k_)) v6 x6_1) ∧ Aside0 (w'.heap[gb218]? = some (.cells #[.int .i64 0, .int .i64 0, (.slice none 0 0)] 32 (0, 0))) ∧ Aside0 (IsS88 w0 w' g s0_0 x1001_1 x1002_1) ∧ Aside0 (KeepBut w w' g none) ∧ Aside0 (Below w0.heap.size w0 w'))
  case atStart => exact ⟨(y236), (t234), (t235), H', ⟨Nat.le_refl _⟩, ⟨by (with_reducible repeat (first | apply Kd.R_alloc | apply Kd.R_drewN | apply Kd.R_drew)); exact Kd.R_mono HO238.out (fun _ hk => hk.1)⟩, ⟨bP BK218⟩, ⟨iZ88 HI0⟩, ⟨kZ HK⟩, ⟨jZ88 HB HI0⟩⟩
  case round =>
   clear H'
   try clear c1
   try clear p2
   try clear c3
   try clear c6
   try clear p6
   try clear c7
   try clear c8
   try clear c12
   try clear hcz13_0
   try clear hcz13_1
   try clear hcz13_2
   try clear hfz13_0
   try clear hfz13_1
   try clear hfz13_2
   obtain ⟨x6_1, x1001_1, x1002_1, HA, HK1, HO_6, BK218, HI0, HK, HB⟩ := hrel
   cases gk with
   | zero => exact absurd HA.out (by simp [spec_l13System.l0])
   | succ k1 =>
    have H := HA.out
    clear HA
    simp only [spec_l13System.l0] at H
    by_cases c21 : (x6_1.length : Int) < (wrap64 (2 + t233))
    ·rw [if_pos c21] at H
     have c21b0 := decide_eq_true c21
     clear c21
     replace H := Option.bind_eq_some_iff.mp H
     obtain ⟨⟨t239, t240, t241⟩, A220, H⟩ := H
     have A22 := Aside0.mk A220
     clear A220
     replace H := Option.bind_eq_some_iff.mp H
     obtain ⟨t242, A230, H⟩ := H
     have A23 := Aside0.mk A230
     clear A230
     by_cases c24 : x6_1.length < 17592186044416
     ·rw [if_pos c24] at H
      have LMc24 := Aside0.mk c24
      clear c24
      obtain ⟨y243, hy243⟩ : ∃ y_ : List Int, y_ = (x6_1 ++ [t242]) := ⟨_, rfl⟩
      replace H : (spec_l13System.l0 k1 (wrap64 (2 + t233)) y243 s0_0 t240 t241) = some (r1, r2, r3, r4, r5, r6) := by first | (rw [hy243]; with_reducible exact H) | (have H2_ := (Option.bind_some _ _).symm.trans H; rw [hy243]; with_reducible exact H2_) | (have H2_ := (Option.bind_some _ _).symm.trans H; with_reducible exact H2_) | with_reducible exact H | (rw [hy243]; exact H) | exact H
      have Ny243 := Aside0.mk hy243
      clear hy243
      have H' := Aside0.mk H
      clear H
      obtain ⟨Ao25, co25, eo25⟩ := Kd.R_slice HO_6.out
      subst eo25
      go_wp2_with (first | (refine gC (some 28) Try.func90 #[.pointer (some ⟨g, 0, none⟩)] ?_; (with_reducible refine (spec_l06Num.calls g s0_0 x1001_1 x1002_1 t239 t240 t241 w0 _ ?side1 ?side2 A22.out).mono ?_); (case side1 => exact iZ88 HI0); (case side2 => exact jZ88 HB HI0); rintro e w26 ⟨rfl, hi, hb, hk⟩; refine ⟨_, rfl, ?_⟩; replace HO_6 := Aside0.mk (Kd.R_mono (Kd.R_keep (IsS88.apart (show IsS88 w0 _ g s0_0 x1001_1 x1002_1 from iZ88 HI0) (rP HO_6) (by decide)) hk (fun _ h => h.2)) (fun _ h => h.1)); replace BK218 := Aside0.mk (KeepBut.blk hk (g' := gb218) (o := .cells #[.int .i64 0, .int .i64 0, .slice none 0 0] 32 (0, 0)) (bP BK218) NB218_0.out (by simp)); replace HK := Aside0.mk (KeepBut.trans (kZ HK) hk (.inl rfl)); replace HB := Aside0.mk (hb); replace HI0 := Aside0.mk (hi); (try clear hb)) | (refine gC (some 29) Try.func47 #[.int .i64 t239] ?_; (with_reducible refine (spec_ScOf.calls t239 t242 _ A23.out).mono ?_); rintro e w' ⟨rfl, ⟨nd, rfl⟩⟩; refine ⟨_, rfl, ?_⟩) | ((with_reducible refine gate_builtin (b := .append) (xs := #[.tmp 26, .tmp 30]) rfl ?_); at_builtin; refine Kd.R_append (Kd.int .i64) w.heap.size rfl (.tmp 26) (.tmp 30) 22 3 (.int .i64 0) 8 rfl Try.underlying22 info3 rfl (by decide) (by omega) (.slice Ao25 x6_1.length co25) x6_1 t242 [.int .i64 t242] (fun k_ => (w.heap.size ≤ k_)) (fun _ => False) rfl rfl ?aP (fun _ hk => hk.elim) ?aF ?aO (Below.refl _ _) ?aS ?aL ?_; (case aP => exact rfl); (case aF => exact (fun k_ hk => (Nat.le_trans (keep_size (w := w) (g := g) (row := none) (kZ HK)) hk))); (case aO => exact (rP HO_6)); (case aS => exact (keep_size (w := w) (g := g) (row := none) (kZ HK))); (case aL => have := LMc24.out; omega); intro v244 w27 ho hb hg hat; rw [← Ny243.out] at ho; replace BK218 := Aside0.mk (blk_grown (bP BK218) hg (Kd.R_ne HO_6.out BK218.out (by decide))); replace HB := Aside0.mk (below_weaken (jZ88 HB HI0) HL.out hb); replace HI0 := Aside0.mk (IsS88.grown (iZ88 HI0) hg (IsS88.own_ne HI0.out HO_6.out (by decide))); replace HK := Aside0.mk (KeepBut.trans (kZ HK) (KeepBut.of_grown hg g) (Kd.R_base2 HO_6.out)); have HO245 := Aside0.mk (ho); clear HO_6; clear ho hb hg hat))
      go_roundg k1
      case measure => have := HK1.out; omega
      case rel => exact ⟨(y243), (t240), (t241), H', ⟨by have := HK1.out; omega⟩, ⟨rP HO245⟩, ⟨bP BK218⟩, ⟨iZ88 HI0⟩, ⟨kZ HK⟩, ⟨jZ88 HB HI0⟩⟩
     ·rw [if_neg c24] at H
      exact absurd H (by simp)
    ·rw [if_neg c21] at H
     have c21b0 := decide_eq_false c21
     clear c21
     replace H := Option.bind_eq_some_iff.mp H
     obtain ⟨⟨t246, t247, t248⟩, A280, H⟩ := H
     have A28 := Aside0.mk A280
     clear A280
     have H' := Aside0.mk H
     clear H
     obtain ⟨Ao29, co29, eo29⟩ := Kd.R_slice HO_6.out
     subst eo29
     go_wp2_with (first | (refine gC (some 35) Try.func67 #[.pointer (some ⟨g, 0, none⟩), .int .i64 (wrap64 (2 + t233))] ?_; (with_reducible refine (spec_l01Below.calls g s0_0 x1001_1 x1002_1 (wrap64 (2 + t233)) t246 t247 t248 w0 _ ?side1 ?side2 A28.out).mono ?_); (case side1 => exact iZ88 HI0); (case side2 => exact jZ88 HB HI0); rintro e w30 ⟨rfl, hi, hb, hk⟩; refine ⟨_, rfl, ?_⟩; replace HO_6 := Aside0.mk (Kd.R_mono (Kd.R_keep (IsS88.apart (show IsS88 w0 _ g s0_0 x1001_1 x1002_1 from iZ88 HI0) (rP HO_6) (by decide)) hk (fun _ h => h.2)) (fun _ h => h.1)); replace BK218 := Aside0.mk (KeepBut.blk hk (g' := gb218) (o := .cells #[.int .i64 0, .int .i64 0, .slice none 0 0] 32 (0, 0)) (bP BK218) NB218_0.out (by simp)); replace HK := Aside0.mk (KeepBut.trans (kZ HK) hk (.inl rfl)); replace HB := Aside0.mk (hb); replace HI0 := Aside0.mk (hi); (try clear hb)) | ((with_reducible refine gate_dst (N := 7) rfl ?_); refine bE 7 #[.int .i64 0, .int .i64 0, .slice none 0 0] 32 ?_; intro gb249 hg w31 hbox hb; replace HO_6 := Aside0.mk (Kd.R_below (rP HO_6) hb); replace HB := Aside0.mk (below_step (jZ88 HB HI0) hb); have BK249 := Aside0.mk (hbox); have GW249 := Aside0.mk ((by rw [hg]; exact (keep_size (w := w) (g := g) (row := none) (kZ HK)) : w.heap.size ≤ gb249)); have GE249 := Aside0.mk ((Nat.le_trans HW0.out (by rw [hg]; exact (keep_size (w := w) (g := g) (row := none) (kZ HK)) : w.heap.size ≤ gb249) : w0.heap.size ≤ gb249)); replace HK := Aside0.mk (KeepBut.trans (kZ HK) (KeepBut.of_below hb g none) (.inl rfl)); obtain ⟨NB218_249, NB249_218⟩ := bN BK218 hg; replace BK218 := bB BK218 hb; have NB0_249 := Aside0.mk ((by rw [hg]; exact Nat.ne_of_lt (IsS88.lt (show IsS88 w0 _ g s0_0 t247 t248 from iZ88 HI0)) : g ≠ gb249)); have NB249_0 := Aside0.mk ((by rw [hg]; exact Nat.ne_of_gt (IsS88.lt (show IsS88 w0 _ g s0_0 t247 t248 from iZ88 HI0)) : gb249 ≠ g)); replace HI0 := Aside0.mk (IsS88.below (iZ88 HI0) hb); clear hb hbox hg; obtain ⟨hnb32, hnc32⟩ := nB NB249_218; obtain ⟨hnb33, hnc33⟩ := nB NB249_0; obtain ⟨hcz34_0, hcz34_1, hcz34_2, hfz34_0, hfz34_1, hfz34_2⟩ := bK3 (w := w31) BK249))
     go_loopg [8] k1 (fun kq v8 w' => ∃ (x6_2 : List Int) (x8_2 : Int) (x1001_2 : Int) (x1002_2 : Int) (x250002_2 : List (S40)) (u250002 : Value), v8 = .int .i64 x8_2 ∧ Aside0 (spec_l13System.l1 kq (wrap64 (2 + t233)) x6_2 x8_2 s0_0 x1001_2 x1002_2 (wrap64 (2 + t233)) t246 x250002_2 = some (r1, r2, r3, r4, r5, r6)) ∧ Aside0 (kq ≤ k1) ∧ Aside0 (Kd.R (Kd.int .i64) 3 w' w.heap.size (fun k_ => (w.heap.size ≤ k_)) (.slice Ao29 x6_1.length co29) x6_2) ∧ Aside0 (Kd.N k40 40 w' w.heap.size (fun k_ => (w.heap.size ≤ k_) ∧ some k_ ≠ ((.slice Ao29 x6_1.length co29) : Value).ownBlock ∧ k_ ≠ gb218 ∧ k_ ≠ gb249 ∧ k_ ≠ g) u250002 x250002_2) ∧ Aside0 (w'.heap[gb218]? = some (.cells #[.int .i64 0, .int .i64 0, (.slice none 0 0)] 32 (0, 0))) ∧ Aside0 (w'.heap[gb249]? = some (.cells #[.int .i64 (wrap64 (2 + t233)), .int .i64 t246, u250002] 32 (0, 0))) ∧ Aside0 (IsS88 w0 w' g s0_0 x1001_2 x1002_2) ∧ Aside0 (KeepBut w w' g none) ∧ Aside0 (Below w0.heap.size w0 w'))
     case atStart => exact ⟨(x6_1), (0), (t247), (t248), (([] : List (S40))), (.slice none 0 0), rS, H', ⟨Nat.le_refl _⟩, ⟨by (with_reducible repeat (first | apply Kd.R_alloc | apply Kd.R_drewN | apply Kd.R_drew)); exact Kd.R_mono (Kd.R_far (p := ⟨gb249, 2, none⟩) (Kd.R_far (p := ⟨gb249, 1, none⟩) (Kd.R_far (p := ⟨gb249, 0, none⟩) (Kd.R_types HO_6.out BK249.out (by decide)) (fun _ hk => hk.2) (.int .i64 (wrap64 (2 + t233)))) (fun _ hk => hk.2) (.int .i64 t246)) (fun _ hk => hk.2) (.slice none 0 0)) (fun _ hk => hk.1)⟩, ⟨by first | exact Kd.S_nil _ _ _ _ _ | exact Kd.N_nil _ _ _ _ _ | exact Kd.V_nil _ _ _ _ _ | exact Kd.Q_nil _ _ _ _ _ | exact Kd.R_nil _ _ _ _ _⟩, ⟨bP BK218⟩, ⟨bU BK249⟩, ⟨iZ88 HI0⟩, ⟨kZ HK⟩, ⟨jZ88 HB HI0⟩⟩
     case round =>
      clear H'
      try clear c1
      try clear c2
      try clear p2
      try clear c3
      try clear c4
      try clear c6
      try clear p6
      try clear c7
      try clear c8
      try clear c9
      try clear c12
      try clear c21
      try clear c21b0
      try clear c24
      try clear c32
      try clear c33
      try clear hcz13_0
      try clear hcz13_1
      try clear hcz13_2
      try clear hcz34_0
      try clear hcz34_1
      try clear hcz34_2
      try clear hfz13_0
      try clear hfz13_1
      try clear hfz13_2
      try clear hfz34_0
      try clear hfz34_1
      try clear hfz34_2
      try clear p2
      try clear p6
      obtain ⟨x6_2, x8_2, x1001_2, x1002_2, x250002_2, u250002, rfl, HA, HK2, HO_6, HO_250002, BK218, BK249, HI0, HK, HB⟩ := hrel
      have hl6_2 := (Kd.R_reads' HO_6.out).1
      rw [hl6_2] at HO_6
      (try simp only [hl6_2])
      (try simp only [hl6_2] at BK218)
      (try simp only [hl6_2] at BK249)
      (try simp only [hl6_2] at HO_250002)
      cases gk with
      | zero => exact absurd HA.out (by simp [spec_l13System.l1])
      | succ k2 =>
       have H := HA.out
       clear HA
       simp only [spec_l13System.l1] at H
       replace H := Option.bind_eq_some_iff.mp H
       obtain ⟨⟨t250, t251, t252⟩, A350, H⟩ := H
       have A35 := Aside0.mk A350
       clear A350
       by_cases c36 : x8_2 < (wrap64 (1 + t250))
       ·rw [if_pos c36] at H
        have c36b0 := decide_eq_true c36
        clear c36
        replace H := Option.bind_eq_some_iff.mp H
        obtain ⟨⟨t253, t256, t259⟩, A370, H⟩ := H
        have A37 := Aside0.mk A370
        clear A370
        have H' := Aside0.mk H
        clear H
        go_wp2_with (first | (refine gC (some 39) Try.func67 #[.pointer (some ⟨g, 0, none⟩), .int .i64 4] ?_; (with_reducible refine (spec_l01Below.calls g s0_0 x1001_2 x1002_2 4 t250 t251 t252 w0 _ ?side1 ?side2 A35.out).mono ?_); (case side1 => exact iZ88 HI0); (case side2 => exact jZ88 HB HI0); rintro e w38 ⟨rfl, hi, hb, hk⟩; refine ⟨_, rfl, ?_⟩; replace HO_6 := Aside0.mk (Kd.R_mono (Kd.R_keep (IsS88.apart (show IsS88 w0 _ g s0_0 x1001_2 x1002_2 from iZ88 HI0) (rP HO_6) (by decide)) hk (fun _ h => h.2)) (fun _ h => h.1)); replace HO_250002 := Aside0.mk (Kd.N_mono (Kd.N_keep (Kd.N_mono (ok := fun k_ => (((w.heap.size ≤ k_)) ∧ (some k_ ≠ (.slice Ao29 x6_2.length co29 : Value).ownBlock ∧ (k_ ≠ gb218 ∧ (k_ ≠ gb249 ∧ k_ ≠ g))))) (by (with_reducible repeat (first | apply Kd.N_alloc | apply Kd.N_drewN | apply Kd.N_drew)); exact HO_250002.out) (fun k_ hk_ => (⟨hk_, hk_.2.2.2.2⟩ : _ ∧ k_ ≠ g))) hk (fun _ h => h.2)) (fun _ h => h.1)); replace BK218 := Aside0.mk (KeepBut.blk hk (g' := gb218) (o := .cells #[.int .i64 0, .int .i64 0, .slice none 0 0] 32 (0, 0)) (bP BK218) NB218_0.out (by simp)); replace BK249 := Aside0.mk (KeepBut.blk hk (g' := gb249) (o := .cells #[.int .i64 (wrap64 (2 + t233)), .int .i64 t246, u250002] 32 (0, 0)) (bP BK249) NB249_0.out (by simp)); replace HK := Aside0.mk (KeepBut.trans (kZ HK) hk (.inl rfl)); replace HB := Aside0.mk (hb); replace HI0 := Aside0.mk (hi); (try clear hb)) | (refine gC (some 45) Try.func91 #[.int .i64 (wrap64 (2 + t233))] ?_; (with_reducible refine (spec_l13Row.calls (wrap64 (2 + t233)) t253 t256 t259 _ A37.out).mono ?_); rintro e w39 ⟨v254, v257, v260, rfl, ho0, ho1, ho2, hb⟩; refine ⟨_, rfl, ?_⟩; replace HO_250002 := Aside0.mk (Kd.N_mono (Kd.N_told (Kd.N_told (Kd.N_told (Kd.N_old (by (with_reducible repeat (first | apply Kd.N_alloc | apply Kd.N_drewN | apply Kd.N_drew)); exact HO_250002.out) hb) (Kd.R_base ho0)) (Kd.R_base ho1)) (Kd.R_base ho2)) (fun _ h_ => h_.1)); have HO255 := Aside0.mk (Kd.R_lower (Kd.R_new' (Kd.R_newM (M := fun k_ => (w.heap.size ≤ k_)) ho0 (keep_size (w := w) (g := g) (row := none) (kZ HK)) (fun k_ h_ => h_)) (Kd.R_lt (rP HO_6))) (keep_size (w := w) (g := g) (row := none) (kZ HK))); have HO258 := Aside0.mk (Kd.R_lower (Kd.R_new' (Kd.R_newM (M := fun k_ => (w.heap.size ≤ k_)) ho1 (keep_size (w := w) (g := g) (row := none) (kZ HK)) (fun k_ h_ => h_)) (Kd.R_lt (rP HO_6))) (keep_size (w := w) (g := g) (row := none) (kZ HK))); have HO261 := Aside0.mk (Kd.R_lower (Kd.R_new' (Kd.R_newM (M := fun k_ => (w.heap.size ≤ k_)) ho2 (keep_size (w := w) (g := g) (row := none) (kZ HK)) (fun k_ h_ => h_)) (Kd.R_lt (rP HO_6))) (keep_size (w := w) (g := g) (row := none) (kZ HK))); replace HO_6 := Aside0.mk (Kd.R_mono (Kd.R_told (Kd.R_told (Kd.R_told (Kd.R_old (rP HO_6) hb) (Kd.R_base ho0)) (Kd.R_base ho1)) (Kd.R_base ho2)) (fun _ h_ => h_.1)); replace BK218 := bB BK218 hb; replace BK249 := bB BK249 hb; replace HK := Aside0.mk (KeepBut.trans (kZ HK) (KeepBut.of_below hb g none) (.inl rfl)); replace HB := Aside0.mk (below_step (jZ88 HB HI0) hb); replace HI0 := Aside0.mk (IsS88.below (iZ88 HI0) hb); (try clear hb); (try clear ho0); (try clear ho1); (try clear ho2)) | ((with_reducible refine gate_dst (N := 9) rfl ?_); refine bE 9 #[.slice none 0 0, .slice none 0 0, .slice none 0 0] 40 ?_; intro gb262 hg w40 hbox hb; replace HO_6 := Aside0.mk (Kd.R_below (rP HO_6) hb); replace HO_250002 := Aside0.mk (Kd.N_below (Kd.N_elderB (by (with_reducible repeat (first | apply Kd.N_alloc | apply Kd.N_drewN | apply Kd.N_drew)); exact HO_250002.out) gb262 (Nat.le_of_eq hg.symm)) hb); replace HO255 := Aside0.mk (Kd.R_below (rP HO255) hb); replace HO258 := Aside0.mk (Kd.R_below (rP HO258) hb); replace HO261 := Aside0.mk (Kd.R_below (rP HO261) hb); replace HB := Aside0.mk (below_step (jZ88 HB HI0) hb); have BK262 := Aside0.mk (hbox); have GW262 := Aside0.mk ((by rw [hg]; exact (keep_size (w := w) (g := g) (row := none) (kZ HK)) : w.heap.size ≤ gb262)); have GE262 := Aside0.mk ((Nat.le_trans HW0.out (by rw [hg]; exact (keep_size (w := w) (g := g) (row := none) (kZ HK)) : w.heap.size ≤ gb262) : w0.heap.size ≤ gb262)); replace HK := Aside0.mk (KeepBut.trans (kZ HK) (KeepBut.of_below hb g none) (.inl rfl)); obtain ⟨NB218_262, NB262_218⟩ := bN BK218 hg; replace BK218 := bB BK218 hb; obtain ⟨NB249_262, NB262_249⟩ := bN BK249 hg; replace BK249 := bB BK249 hb; have NB0_262 := Aside0.mk ((by rw [hg]; exact Nat.ne_of_lt (IsS88.lt (show IsS88 w0 _ g s0_0 t251 t252 from iZ88 HI0)) : g ≠ gb262)); have NB262_0 := Aside0.mk ((by rw [hg]; exact Nat.ne_of_gt (IsS88.lt (show IsS88 w0 _ g s0_0 t251 t252 from iZ88 HI0)) : gb262 ≠ g)); replace HI0 := Aside0.mk (IsS88.below (iZ88 HI0) hb); clear hb hbox hg; obtain ⟨Ao41, co41, eo41⟩ := Kd.R_slice HO255.out; subst eo41; obtain ⟨hnb42, hnc42⟩ := nB NB262_218; obtain ⟨hnb43, hnc43⟩ := nB NB262_249; obtain ⟨hnb44, hnc44⟩ := nB NB262_0; obtain ⟨hcz45_0, hcz45_1, hcz45_2, hfz45_0, hfz45_1, hfz45_2⟩ := bK3 (w := w40) BK262; obtain ⟨Ao46, co46, eo46⟩ := Kd.R_slice HO258.out; subst eo46; obtain ⟨Ao47, co47, eo47⟩ := Kd.R_slice HO261.out; subst eo47))
        go_loopg [10] k2 (fun kq v10 w' => ∃ (x6_3 : List Int) (x10_3 : Int) (x1001_3 : Int) (x1002_3 : Int) (x263000_3 : List Int) (x263001_3 : List Int) (x263002_3 : List Int) (u263000 : Value) (u263001 : Value) (u263002 : Value), v10 = .int .i64 x10_3 ∧ Aside0 (spec_l13System.l2 kq (wrap64 (2 + t233)) x6_3 x8_2 x10_3 s0_0 x1001_3 x1002_3 (wrap64 (2 + t233)) t246 x250002_2 x263000_3 x263001_3 x263002_3 = some (r1, r2, r3, r4, r5, r6)) ∧ Aside0 (kq ≤ k2) ∧ Aside0 (Kd.R (Kd.int .i64) 3 w' w.heap.size (fun k_ => (w.heap.size ≤ k_) ∧ some k_ ≠ (u263000 : Value).ownBlock ∧ some k_ ≠ (u263001 : Value).ownBlock ∧ some k_ ≠ (u263002 : Value).ownBlock) (.slice Ao29 x6_2.length co29) x6_3) ∧ Aside0 (Kd.N k40 40 w' w.heap.size (fun k_ => (w.heap.size ≤ k_) ∧ some k_ ≠ ((.slice Ao29 x6_2.length co29) : Value).ownBlock ∧ some k_ ≠ (u263000 : Value).ownBlock ∧ some k_ ≠ (u263001 : Value).ownBlock ∧ some k_ ≠ (u263002 : Value).ownBlock ∧ k_ ≠ gb218 ∧ k_ ≠ gb249 ∧ k_ ≠ gb262 ∧ k_ ≠ g) u250002 x250002_2) ∧ Aside0 (Kd.R (Kd.int .i64) 3 w' w.heap.size (fun k_ => (w.heap.size ≤ k_) ∧ some k_ ≠ ((.slice Ao29 x6_2.length co29) : Value).ownBlock ∧ some k_ ≠ (u263001 : Value).ownBlock ∧ some k_ ≠ (u263002 : Value).ownBlock) u263000 x263000_3) ∧ Aside0 (Kd.R (Kd.int .i64) 3 w' w.heap.size (fun k_ => (w.heap.size ≤ k_) ∧ some k_ ≠ ((.slice Ao29 x6_2.length co29) : Value).ownBlock ∧ some k_ ≠ (u263000 : Value).ownBlock ∧ some k_ ≠ (u263002 : Value).ownBlock) u263001 x263001_3) ∧ Aside0 (Kd.R (Kd.int .i64) 3 w' w.heap.size (fun k_ => (w.heap.size ≤ k_) ∧ some k_ ≠ ((.slice Ao29 x6_2.length co29) : Value).ownBlock ∧ some k_ ≠ (u263000 : Value).ownBlock ∧ some k_ ≠ (u263001 : Value).ownBlock) u263002 x263002_3) ∧ Aside0 (w'.heap[gb218]? = some (.cells #[.int .i64 0, .int .i64 0, (.slice none 0 0)] 32 (0, 0))) ∧ Aside0 (w'.heap[gb249]? = some (.cells #[.int .i64 (wrap64 (2 + t233)), .int .i64 t246, u250002] 32 (0, 0))) ∧ Aside0 (w'.heap[gb262]? = some (.cells #[u263000, u263001, u263002] 40 (0, 0))) ∧ Aside0 (IsS88 w0 w' g s0_0 x1001_3 x1002_3) ∧ Aside0 (KeepBut w w' g none) ∧ Aside0 (Below w0.heap.size w0 w'))
        case atStart => exact ⟨(x6_2), (0), (t251), (t252), (t253), (t256), (t259), (.slice Ao41 t253.length co41), (.slice Ao46 t256.length co46), (.slice Ao47 t259.length co47), rS, H', ⟨Nat.le_refl _⟩, ⟨by (try simp only [hl6_2]); (with_reducible repeat (first | apply Kd.R_alloc | apply Kd.R_drewN | apply Kd.R_drew)); exact Kd.R_mono (Kd.R_far (p := ⟨gb262, 2, none⟩) (Kd.R_far (p := ⟨gb262, 1, none⟩) (Kd.R_far (p := ⟨gb262, 0, none⟩) (Kd.R_types HO_6.out BK262.out (by decide)) (fun _ hk => hk.2) (.slice Ao41 t253.length co41)) (fun _ hk => hk.2) (.slice Ao46 t256.length co46)) (fun _ hk => hk.2) (.slice Ao47 t259.length co47)) (fun _ hk => ⟨hk.1.1.1.1, ⟨hk.1.1.1.2, ⟨hk.1.1.2, hk.1.2⟩⟩⟩)⟩, ⟨by (try simp only [hl6_2]); (with_reducible repeat (first | apply Kd.N_alloc | apply Kd.N_drewN | apply Kd.N_drew)); exact Kd.N_mono (Kd.N_far (p := ⟨gb262, 2, none⟩) (Kd.N_far (p := ⟨gb262, 1, none⟩) (Kd.N_far (p := ⟨gb262, 0, none⟩) (Kd.N_mono HO_250002.out (fun k_ hk => (⟨hk, hk.2⟩ : _ ∧ k_ ≠ gb262))) (fun _ hk => hk.2) (.slice Ao41 t253.length co41)) (fun _ hk => hk.2) (.slice Ao46 t256.length co46)) (fun _ hk => hk.2) (.slice Ao47 t259.length co47)) (fun _ hk => ⟨hk.1.1.1.1.1.1, ⟨hk.1.1.1.1.1.2.1, ⟨hk.1.1.1.1.2, ⟨hk.1.1.1.2, ⟨hk.1.1.2, ⟨hk.1.1.1.1.1.2.2.1, ⟨hk.1.1.1.1.1.2.2.2.1, ⟨hk.1.2, hk.1.1.1.1.1.2.2.2.2⟩⟩⟩⟩⟩⟩⟩⟩)⟩, ⟨by (try simp only [hl6_2]); (with_reducible repeat (first | apply Kd.R_alloc | apply Kd.R_drewN | apply Kd.R_drew)); exact Kd.R_mono (Kd.R_far (p := ⟨gb262, 2, none⟩) (Kd.R_far (p := ⟨gb262, 1, none⟩) (Kd.R_far (p := ⟨gb262, 0, none⟩) (Kd.R_types HO255.out BK262.out (by decide)) (fun _ hk => hk.2) (.slice Ao41 t253.length co41)) (fun _ hk => hk.2) (.slice Ao46 t256.length co46)) (fun _ hk => hk.2) (.slice Ao47 t259.length co47)) (fun _ hk => ⟨hk.1.1.1, ⟨hk.1.2, ⟨hk.1.1.2.1, hk.1.1.2.2⟩⟩⟩)⟩, ⟨by (try simp only [hl6_2]); (with_reducible repeat (first | apply Kd.R_alloc | apply Kd.R_drewN | apply Kd.R_drew)); exact Kd.R_mono (Kd.R_far (p := ⟨gb262, 2, none⟩) (Kd.R_far (p := ⟨gb262, 1, none⟩) (Kd.R_far (p := ⟨gb262, 0, none⟩) (Kd.R_types HO258.out BK262.out (by decide)) (fun _ hk => hk.2) (.slice Ao41 t253.length co41)) (fun _ hk => hk.2) (.slice Ao46 t256.length co46)) (fun _ hk => hk.2) (.slice Ao47 t259.length co47)) (fun _ hk => ⟨hk.1.1.1, ⟨hk.1.2, ⟨hk.1.1.2.1, hk.1.1.2.2⟩⟩⟩)⟩, ⟨by (try simp only [hl6_2]); (with_reducible repeat (first | apply Kd.R_alloc | apply Kd.R_drewN | apply Kd.R_drew)); exact Kd.R_mono (Kd.R_far (p := ⟨gb262, 2, none⟩) (Kd.R_far (p := ⟨gb262, 1, none⟩) (Kd.R_far (p := ⟨gb262, 0, none⟩) (Kd.R_types HO261.out BK262.out (by decide)) (fun _ hk => hk.2) (.slice Ao41 t253.length co41)) (fun _ hk => hk.2) (.slice Ao46 t256.length co46)) (fun _ hk => hk.2) (.slice Ao47 t259.length co47)) (fun _ hk => ⟨hk.1.1.1, ⟨hk.1.2, ⟨hk.1.1.2.1, hk.1.1.2.2⟩⟩⟩)⟩, ⟨by (try simp only [hl6_2]); (with_reducible repeat (first | refine blk_drewN ?_ _ | refine blk_drew ?_ | refine blk_alloc ?_ _)); refine blk_far ?_ NB218_262.out _; (with_reducible repeat (first | refine blk_drewN ?_ _ | refine blk_drew ?_ | refine blk_alloc ?_ _)); refine blk_far ?_ NB218_262.out _; (with_reducible repeat (first | refine blk_drewN ?_ _ | refine blk_drew ?_ | refine blk_alloc ?_ _)); refine blk_far ?_ NB218_262.out _; (with_reducible repeat (first | refine blk_drewN ?_ _ | refine blk_drew ?_ | refine blk_alloc ?_ _)); exact BK218.out⟩, ⟨by (try simp only [hl6_2]); (with_reducible repeat (first | refine blk_drewN ?_ _ | refine blk_drew ?_ | refine blk_alloc ?_ _)); refine blk_far ?_ NB249_262.out _; (with_reducible repeat (first | refine blk_drewN ?_ _ | refine blk_drew ?_ | refine blk_alloc ?_ _)); refine blk_far ?_ NB249_262.out _; (with_reducible repeat (first | refine blk_drewN ?_ _ | refine blk_drew ?_ | refine blk_alloc ?_ _)); refine blk_far ?_ NB249_262.out _; (with_reducible repeat (first | refine blk_drewN ?_ _ | refine blk_drew ?_ | refine blk_alloc ?_ _)); exact BK249.out⟩, ⟨by (try simp only [hl6_2]); (with_reducible repeat (first | refine blk_drewN ?_ _ | refine blk_drew ?_ | refine blk_alloc ?_ _)); refine blk_put (cs := #[.slice Ao41 t253.length co41, .slice Ao46 t256.length co46, .slice none 0 0]) ?_ 2 _ rfl; (with_reducible repeat (first | refine blk_drewN ?_ _ | refine blk_drew ?_ | refine blk_alloc ?_ _)); refine blk_put (cs := #[.slice Ao41 t253.length co41, .slice none 0 0, .slice none 0 0]) ?_ 1 _ rfl; (with_reducible repeat (first | refine blk_drewN ?_ _ | refine blk_drew ?_ | refine blk_alloc ?_ _)); refine blk_put (cs := #[.slice none 0 0, .slice none 0 0, .slice none 0 0]) ?_ 0 _ rfl; (with_reducible repeat (first | refine blk_drewN ?_ _ | refine blk_drew ?_ | refine blk_alloc ?_ _)); exact BK262.out⟩, ⟨iZ88 HI0⟩, ⟨kZ HK⟩, ⟨jZ88 HB HI0⟩⟩
        case round =>
         clear H'
         try clear c1
         try clear c2
         try clear p2
         try clear c3
         try clear c4
         try clear c6
         try clear p6
         try clear c7
         try clear c8
         try clear c9
         try clear c12
         try clear c21
         try clear c21b0
         try clear c24
         try clear c32
         try clear c33
         try clear c36
         try clear c36b0
         try clear c42
         try clear c43
         try clear c44
         try clear c47
         try clear hcz13_0
         try clear hcz13_1
         try clear hcz13_2
         try clear hcz34_0
         try clear hcz34_1
         try clear hcz34_2
         try clear hcz45_0
         try clear hcz45_1
         try clear hcz45_2
         try clear hfz13_0
         try clear hfz13_1
         try clear hfz13_2
         try clear hfz34_0
         try clear hfz34_1
         try clear hfz34_2
         try clear hfz45_0
         try clear hfz45_1
         try clear hfz45_2
         try clear p2
         try clear p6
         obtain ⟨x6_3, x10_3, x1001_3, x1002_3, x263000_3, x263001_3, x263002_3, u263000, u263001, u263002, rfl, HA, HK3, HO_6, HO_250002, HO_263000, HO_263001, HO_263002, BK218, BK249, BK262, HI0, HK, HB⟩ := hrel
         have hl6_3 := (Kd.R_reads' HO_6.out).1
         rw [hl6_3] at HO_6
         (try simp only [hl6_3])
         (try simp only [hl6_3] at BK218)
         (try simp only [hl6_3] at BK249)
         (try simp only [hl6_3] at BK262)
         (try simp only [hl6_3] at HO_250002)
         (try simp only [hl6_3] at HO_263000)
         (try simp only [hl6_3] at HO_263001)
         (try simp only [hl6_3] at HO_263002)
         cases gk with
         | zero => exact absurd HA.out (by simp [spec_l13System.l2])
         | succ k3 =>
          have H := HA.out
          clear HA
          simp only [spec_l13System.l2] at H
          by_cases c48 : x10_3 < (wrap64 (2 + t233))
          ·rw [if_pos c48] at H
           have c48b0 := decide_eq_true c48
           clear c48
           replace H := Option.bind_eq_some_iff.mp H
           obtain ⟨⟨t263, t264, t265⟩, A490, H⟩ := H
           have A49 := Aside0.mk A490
           clear A490
           by_cases c50 : 0 ≤ x10_3
           ·rw [if_pos c50] at H
            have c50b0 := decide_eq_true c50
            clear c50
            by_cases c51 : x10_3 < (x263000_3.length : Int)
            ·rw [if_pos c51] at H
             have c51b0 := decide_eq_true c51
             clear c51
             obtain ⟨y266, hy266⟩ : ∃ y_ : List Int, y_ = (x263000_3.set (x10_3 : Int).toNat t263) := ⟨_, rfl⟩
             replace H : ((spec_l01Below.f s0_0 t264 t265 3).bind fun bt267 => (if x10_3 < (x263001_3.length : Int) then (spec_l13System.l2 k3 (wrap64 (2 + t233)) x6_3 x8_2 (wrap64 (x10_3 + 1)) s0_0 bt267.2.1 bt267.2.2 (wrap64 (2 + t233)) t246 x250002_2 y266 (x263001_3.set (x10_3 : Int).toNat bt267.1) x263002_3) else (none))) = some (r1, r2, r3, r4, r5, r6) := by first | (rw [hy266]; with_reducible exact H) | (have H2_ := (Option.bind_some _ _).symm.trans H; rw [hy266]; with_reducible exact H2_) | (have H2_ := (Option.bind_some _ _).symm.trans H; with_reducible exact H2_) | with_reducible exact H | (rw [hy266]; exact H) | exact H
             have Ny266 := Aside0.mk hy266
             clear hy266
             replace H := Option.bind_eq_some_iff.mp H
             obtain ⟨⟨t267, t268, t269⟩, A530, H⟩ := H
             have A53 := Aside0.mk A530
             clear A530
             by_cases c54 : x10_3 < (x263001_3.length : Int)
             ·rw [if_pos c54] at H
              have c54b0 := decide_eq_true c54
              clear c54
              obtain ⟨y270, hy270⟩ : ∃ y_ : List Int, y_ = (x263001_3.set (x10_3 : Int).toNat t267) := ⟨_, rfl⟩
              replace H : (spec_l13System.l2 k3 (wrap64 (2 + t233)) x6_3 x8_2 (wrap64 (x10_3 + 1)) s0_0 t268 t269 (wrap64 (2 + t233)) t246 x250002_2 y266 y270 x263002_3) = some (r1, r2, r3, r4, r5, r6) := by first | (rw [hy270]; with_reducible exact H) | (have H2_ := (Option.bind_some _ _).symm.trans H; rw [hy270]; with_reducible exact H2_) | (have H2_ := (Option.bind_some _ _).symm.trans H; with_reducible exact H2_) | with_reducible exact H | (rw [hy270]; exact H) | exact H
              have Ny270 := Aside0.mk hy270
              clear hy270
              have H' := Aside0.mk H
              clear H
              try go_wp2
              replace HO_6 := Aside0.mk (Kd.R_drew HO_6.out)
              replace HO_250002 := Aside0.mk (Kd.N_drew HO_250002.out)
              replace HO_263000 := Aside0.mk (Kd.R_drew HO_263000.out)
              replace HO_263001 := Aside0.mk (Kd.R_drew HO_263001.out)
              replace HO_263002 := Aside0.mk (Kd.R_drew HO_263002.out)
              replace BK218 := Aside0.mk (blk_drew BK218.out)
              replace BK249 := Aside0.mk (blk_drew BK249.out)
              replace BK262 := Aside0.mk (blk_drew BK262.out)
              replace HI0 := Aside0.mk (IsS88.drew HI0.out)
              replace HK := Aside0.mk (keep_drew HK.out)
              replace HB := Aside0.mk (below_drew1 HB.out)
              refine start_ (n := 7) (S := fun w' => SQ3 w' gb262 (u263000) (u263001) (u263002)) (ds := [6]) #[false, false, false, false, false, false, false] (by kernel_rfl) rfl rfl (bT3 BK262) (fun hHeld => ?_)
              generalize wr.drew = w56 at HO_6 HO_250002 HO_263000 HO_263001 HO_263002 BK218 BK249 BK262 HI0 HK HB hHeld ⊢
              refine pJ 0 (some 51) ?_
              refine pJ 2 (some 53) ?_
              refine pJ 3 (some 54) ?_
              refine tJ 1 (some 52) hHeld ?_
              refine one_ (i := 4) (N := some 55) #[true, true, true, true, true, false, false] rfl rfl (by kernel_rfl) (by decide) (fun K hK => ?_)
              refine gO Try.func67 #[.pointer (some ⟨g, 0, none⟩), .int .i64 3] ?_
              with_reducible refine (spec_l01Below.calls g s0_0 x1001_3 x1002_3 3 t263 t264 t265 w0 _ ?side1 ?side2 A49.out).mono ?_
              (case side1 => exact iZ88 HI0)
              (case side2 => exact jZ88 HB HI0)
              rintro e w57 ⟨rfl, hi, hb, hk⟩
              refine ⟨_, rfl, ?_⟩
              replace HO_6 := Aside0.mk (Kd.R_mono (Kd.R_keep (IsS88.apart (show IsS88 w0 _ g s0_0 x1001_3 x1002_3 from iZ88 HI0) (rP HO_6) (by decide)) hk (fun _ h => h.2)) (fun _ h => h.1))
              replace HO_250002 := Aside0.mk (Kd.N_mono (Kd.N_keep (Kd.N_mono (ok := fun k_ => (((w.heap.size ≤ k_)) ∧ (some k_ ≠ (.slice Ao29 x6_3.length co29 : Value).ownBlock ∧ (some k_ ≠ (u263000 : Value).ownBlock ∧ (some k_ ≠ (u263001 : Value).ownBlock ∧ (some k_ ≠ (u263002 : Value).ownBlock ∧ (k_ ≠ gb218 ∧ (k_ ≠ gb249 ∧ (k_ ≠ gb262 ∧ k_ ≠ g))))))))) (by (with_reducible repeat (first | apply Kd.N_alloc | apply Kd.N_drewN | apply Kd.N_drew)); exact HO_250002.out) (fun k_ hk_ => (⟨hk_, hk_.2.2.2.2.2.2.2.2⟩ : _ ∧ k_ ≠ g))) hk (fun _ h => h.2)) (fun _ h => h.1))
              replace HO_263000 := Aside0.mk (Kd.R_mono (Kd.R_keep (IsS88.apart (show IsS88 w0 _ g s0_0 x1001_3 x1002_3 from iZ88 HI0) (rP HO_263000) (by decide)) hk (fun _ h => h.2)) (fun _ h => h.1))
              replace HO_263001 := Aside0.mk (Kd.R_mono (Kd.R_keep (IsS88.apart (show IsS88 w0 _ g s0_0 x1001_3 x1002_3 from iZ88 HI0) (rP HO_263001) (by decide)) hk (fun _ h => h.2)) (fun _ h => h.1))
              replace HO_263002 := Aside0.mk (Kd.R_mono (Kd.R_keep (IsS88.apart (show IsS88 w0 _ g s0_0 x1001_3 x1002_3 from iZ88 HI0) (rP HO_263002) (by decide)) hk (fun _ h => h.2)) (fun _ h => h.1))
              replace BK218 := Aside0.mk (KeepBut.blk hk (g' := gb218) (o := .cells #[.int .i64 0, .int .i64 0, .slice none 0 0] 32 (0, 0)) (bP BK218) NB218_0.out (by simp))
              replace BK249 := Aside0.mk (KeepBut.blk hk (g' := gb249) (o := .cells #[.int .i64 (wrap64 (2 + t233)), .int .i64 t246, u250002] 32 (0, 0)) (bP BK249) NB249_0.out (by simp))
              replace BK262 := Aside0.mk (KeepBut.blk hk (g' := gb262) (o := .cells #[u263000, u263001, u263002] 40 (0, 0)) (bP BK262) NB262_0.out (by simp))
              replace HK := Aside0.mk (KeepBut.trans (kZ HK) hk (.inl rfl))
              replace HB := Aside0.mk (hb)
              replace HI0 := Aside0.mk (hi)
              (try clear hb)
              have p52 : 0 ≤ (x10_3 : Int) := of_decide_eq_true (by first | (with_reducible assumption) | assumption)
              have q52 : (x10_3 : Int) < ((x263000_3.length : Int) : Int) := of_decide_eq_true (by first | (with_reducible assumption) | assumption)
              obtain ⟨go52, co52, eo52, gb52, gl52, cl52, HG52⟩ := Kd.R_form HO_263000.out (by omega)
              (first | cases eo52 | (injection eo52 with ea_ en_ ec_; (first | subst ea_ | (injection ea_ with ea_; subst ea_)); subst ec_; clear en_))
              have GB52 := Aside0.mk gb52
              have GG52 := Aside0.mk HG52
              clear gb52 gl52 HG52
              obtain ⟨hx52_0, hf52_0⟩ := Kd.R_celln 0 HO_263000.out (x10_3 : Int) p52 q52
              replace p52 := eq_true p52
              replace q52 := eq_true q52
              have HN0_go52 := Aside0.mk (show g ≠ go52 from by have h_ := IsS88.own_ne HI0.out HO_263000.out (by decide); intro e_; exact h_ (by rw [e_]; rfl))
              have HP58 := Kd.R_putn HO_263000.out (x10_3 : Int) t263
              rw [← Ny266.out] at HP58
              have HQ58 := Aside0.mk HP58
              clear HP58
              refine hK.out _ _ (bT3 BK262) (fun hHeld => ?_)
              clear hK K
              refine nO (some 55) ?_
              refine pJ 5 (some 56) ?_
              refine last_ (i := 6) (N := none) #[true, true, true, true, true, true, true] rfl rfl (by kernel_rfl) (by decide) (fun K hK => ?_)
              refine skip_ (w1 := ?_) (by rfl) rfl ?_ ?_
              rotate_left
              ·go_simp
               rfl
              refine hK.out _ _ ?_
              clear hK K
              refine done_ (by kernel_rfl) ?_
              try go_wp2
              obtain ⟨w59, hW_⟩ : ∃ W_ : World, W_ = (w57.setCell ⟨go52, (x10_3 : Int).toNat, none⟩ (.int .i64 t263)) := ⟨_, rfl⟩
              have n0_ : Aside0 (Kd.R (Kd.int .i64) 3 (w57.setCell ⟨go52, (x10_3 : Int).toNat, none⟩ (.int .i64 t263)) w.heap.size (fun k_ => (w.heap.size ≤ k_) ∧ some k_ ≠ (.slice (some ⟨go52, 0, none⟩) x263000_3.length co52 : Value).ownBlock ∧ some k_ ≠ (u263001 : Value).ownBlock ∧ some k_ ≠ (u263002 : Value).ownBlock) (.slice Ao29 x6_3.length co29) x6_3) := ⟨by (with_reducible repeat (first | apply Kd.R_alloc | apply Kd.R_drewN | apply Kd.R_drew)); exact Kd.R_mono (Kd.R_far (p := ⟨go52, (x10_3 : Int).toNat, none⟩) (Kd.R_mono HO_6.out (fun k_ hk => (⟨hk, fun e_ => hk.2.1 (by rw [e_]; rfl)⟩ : _ ∧ k_ ≠ go52))) (fun _ hk => hk.2) (.int .i64 t263)) (fun _ hk => ⟨hk.1.1, ⟨hk.1.2.1, ⟨hk.1.2.2.1, hk.1.2.2.2⟩⟩⟩)⟩
              rw [← hW_] at n0_
              have n1_ : Aside0 (Kd.N k40 40 (w57.setCell ⟨go52, (x10_3 : Int).toNat, none⟩ (.int .i64 t263)) w.heap.size (fun k_ => (w.heap.size ≤ k_) ∧ some k_ ≠ (.slice Ao29 x6_3.length co29 : Value).ownBlock ∧ some k_ ≠ (.slice (some ⟨go52, 0, none⟩) x263000_3.length co52 : Value).ownBlock ∧ some k_ ≠ (u263001 : Value).ownBlock ∧ some k_ ≠ (u263002 : Value).ownBlock ∧ k_ ≠ gb218 ∧ k_ ≠ gb249 ∧ k_ ≠ gb262 ∧ k_ ≠ g) u250002 x250002_2) := ⟨by (with_reducible repeat (first | apply Kd.N_alloc | apply Kd.N_drewN | apply Kd.N_drew)); exact Kd.N_mono (Kd.N_far (p := ⟨go52, (x10_3 : Int).toNat, none⟩) (Kd.N_mono HO_250002.out (fun k_ hk => (⟨hk, fun e_ => hk.2.2.1 (by rw [e_]; rfl)⟩ : _ ∧ k_ ≠ go52))) (fun _ hk => hk.2) (.int .i64 t263)) (fun _ hk => ⟨hk.1.1, ⟨hk.1.2.1, ⟨hk.1.2.2.1, ⟨hk.1.2.2.2.1, ⟨hk.1.2.2.2.2.1, ⟨hk.1.2.2.2.2.2.1, ⟨hk.1.2.2.2.2.2.2.1, ⟨hk.1.2.2.2.2.2.2.2.1, hk.1.2.2.2.2.2.2.2.2⟩⟩⟩⟩⟩⟩⟩⟩)⟩
              rw [← hW_] at n1_
              have n2_ : Aside0 (Kd.R (Kd.int .i64) 3 (w57.setCell ⟨go52, (x10_3 : Int).toNat, none⟩ (.int .i64 t263)) w.heap.size (fun k_ => (w.heap.size ≤ k_) ∧ some k_ ≠ (.slice Ao29 x6_3.length co29 : Value).ownBlock ∧ some k_ ≠ (u263001 : Value).ownBlock ∧ some k_ ≠ (u263002 : Value).ownBlock) (.slice (some ⟨go52, 0, none⟩) x263000_3.length co52) y266) := ⟨rP HQ58⟩
              rw [← hW_] at n2_
              have n3_ : Aside0 (Kd.R (Kd.int .i64) 3 (w57.setCell ⟨go52, (x10_3 : Int).toNat, none⟩ (.int .i64 t263)) w.heap.size (fun k_ => (w.heap.size ≤ k_) ∧ some k_ ≠ (.slice Ao29 x6_3.length co29 : Value).ownBlock ∧ some k_ ≠ (.slice (some ⟨go52, 0, none⟩) x263000_3.length co52 : Value).ownBlock ∧ some k_ ≠ (u263002 : Value).ownBlock) u263001 x263001_3) := ⟨by (with_reducible repeat (first | apply Kd.R_alloc | apply Kd.R_drewN | apply Kd.R_drew)); exact Kd.R_mono (Kd.R_far (p := ⟨go52, (x10_3 : Int).toNat, none⟩) (Kd.R_mono HO_263001.out (fun k_ hk => (⟨hk, fun e_ => hk.2.2.1 (by rw [e_]; rfl)⟩ : _ ∧ k_ ≠ go52))) (fun _ hk => hk.2) (.int .i64 t263)) (fun _ hk => ⟨hk.1.1, ⟨hk.1.2.1, ⟨hk.1.2.2.1, hk.1.2.2.2⟩⟩⟩)⟩
              rw [← hW_] at n3_
              have n4_ : Aside0 (Kd.R (Kd.int .i64) 3 (w57.setCell ⟨go52, (x10_3 : Int).toNat, none⟩ (.int .i64 t263)) w.heap.size (fun k_ => (w.heap.size ≤ k_) ∧ some k_ ≠ (.slice Ao29 x6_3.length co29 : Value).ownBlock ∧ some k_ ≠ (.slice (some ⟨go52, 0, none⟩) x263000_3.length co52 : Value).ownBlock ∧ some k_ ≠ (u263001 : Value).ownBlock) u263002 x263002_3) := ⟨by (with_reducible repeat (first | apply Kd.R_alloc | apply Kd.R_drewN | apply Kd.R_drew)); exact Kd.R_mono (Kd.R_far (p := ⟨go52, (x10_3 : Int).toNat, none⟩) (Kd.R_mono HO_263002.out (fun k_ hk => (⟨hk, fun e_ => hk.2.2.1 (by rw [e_]; rfl)⟩ : _ ∧ k_ ≠ go52))) (fun _ hk => hk.2) (.int .i64 t263)) (fun _ hk => ⟨hk.1.1, ⟨hk.1.2.1, ⟨hk.1.2.2.1, hk.1.2.2.2⟩⟩⟩)⟩
              rw [← hW_] at n4_
              have n5_ : Aside0 ((w57.setCell ⟨go52, (x10_3 : Int).toNat, none⟩ (.int .i64 t263)).heap[gb218]? = some (.cells #[.int .i64 0, .int .i64 0, .slice none 0 0] 32 (0, 0))) := ⟨by (with_reducible repeat (first | refine blk_drewN ?_ _ | refine blk_drew ?_ | refine blk_alloc ?_ _)); refine blk_far ?_ (by have h_ := Kd.R_ne HO_263000.out BK218.out (by decide); intro e_; exact h_ (by rw [e_]; rfl)) _; (with_reducible repeat (first | refine blk_drewN ?_ _ | refine blk_drew ?_ | refine blk_alloc ?_ _)); exact BK218.out⟩
              rw [← hW_] at n5_
              have n6_ : Aside0 ((w57.setCell ⟨go52, (x10_3 : Int).toNat, none⟩ (.int .i64 t263)).heap[gb249]? = some (.cells #[.int .i64 (wrap64 (2 + t233)), .int .i64 t246, u250002] 32 (0, 0))) := ⟨by (with_reducible repeat (first | refine blk_drewN ?_ _ | refine blk_drew ?_ | refine blk_alloc ?_ _)); refine blk_far ?_ (by have h_ := Kd.R_ne HO_263000.out BK249.out (by decide); intro e_; exact h_ (by rw [e_]; rfl)) _; (with_reducible repeat (first | refine blk_drewN ?_ _ | refine blk_drew ?_ | refine blk_alloc ?_ _)); exact BK249.out⟩
              rw [← hW_] at n6_
              have n7_ : Aside0 ((w57.setCell ⟨go52, (x10_3 : Int).toNat, none⟩ (.int .i64 t263)).heap[gb262]? = some (.cells #[.slice (some ⟨go52, 0, none⟩) x263000_3.length co52, u263001, u263002] 40 (0, 0))) := ⟨by (with_reducible repeat (first | refine blk_drewN ?_ _ | refine blk_drew ?_ | refine blk_alloc ?_ _)); refine blk_far ?_ (by have h_ := Kd.R_ne HO_263000.out BK262.out (by decide); intro e_; exact h_ (by rw [e_]; rfl)) _; (with_reducible repeat (first | refine blk_drewN ?_ _ | refine blk_drew ?_ | refine blk_alloc ?_ _)); exact BK262.out⟩
              rw [← hW_] at n7_
              have n8_ : Aside0 (IsS88 w0 (w57.setCell ⟨go52, (x10_3 : Int).toNat, none⟩ (.int .i64 t263)) g s0_0 t264 t265) := ⟨by repeat (first | (with_reducible first | exact HI0.out | apply IsS88.alloc | apply IsS88.drewN | apply IsS88.drew | apply IsS88.set_1 | apply IsS88.set_2 | refine IsS88.far ?_ HN0_go52.out _ | refine IsS88.far ?_ NB0_218.out _ | refine IsS88.far ?_ NB0_249.out _ | refine IsS88.far ?_ NB0_262.out _) | exact HI0.out)⟩
              rw [← hW_] at n8_
              have n9_ : Aside0 (KeepBut w (w57.setCell ⟨go52, (x10_3 : Int).toNat, none⟩ (.int .i64 t263)) g none) := ⟨by repeat (first | (with_reducible first | exact HK.out | apply KeepBut.set_ | apply keep_drewN | apply keep_drew | apply keep_alloc | refine keep_far ?_ GB52.out _ | refine keep_far ?_ GW218.out _ | refine keep_far ?_ GW249.out _ | refine keep_far ?_ GW262.out _) | exact HK.out)⟩
              rw [← hW_] at n9_
              have n10_ : Aside0 (Below w0.heap.size w0 (w57.setCell ⟨go52, (x10_3 : Int).toNat, none⟩ (.int .i64 t263))) := ⟨by repeat (first | (with_reducible first | exact HB.out | apply below_alloc | apply pw_below_drewN | apply below_drew1 | refine below_set ?_ (Nat.le_trans HL.out GB52.out) | refine below_set ?_ (IsS88.ge HI0.out) | refine below_set ?_ GE218.out | refine below_set ?_ GE249.out | refine below_set ?_ GE262.out) | exact HB.out)⟩
              rw [← hW_] at n10_
              (try clear HO_6)
              (try clear HO_250002)
              (try clear HO_263000)
              (try clear HO_263001)
              (try clear HO_263002)
              (try clear BK218)
              (try clear BK249)
              (try clear BK262)
              (try clear HI0)
              (try clear HK)
              (try clear HB)
              have HO_6 := n0_
              clear n0_
              have HO_250002 := n1_
              clear n1_
              have HO_263000 := n2_
              clear n2_
              have HO_263001 := n3_
              clear n3_
              have HO_263002 := n4_
              clear n4_
              have BK218 := n5_
              clear n5_
              have BK249 := n6_
              clear n6_
              have BK262 := n7_
              clear n7_
              have HI0 := n8_
              clear n8_
              have HK := n9_
              clear n9_
              have HB := n10_
              clear n10_
              first | rw [← hW_] | rw [show ∀ (w_ : World) (n_ : Nat) (p_ : Addr) (v_ : Value), (w_.drewN n_).setCell p_ v_ = (w_.setCell p_ v_).drewN n_ from fun _ _ _ _ => rfl, ← hW_]
              clear hW_
              replace HO_6 := Aside0.mk (Kd.R_drew HO_6.out)
              replace HO_250002 := Aside0.mk (Kd.N_drew HO_250002.out)
              replace HO_263000 := Aside0.mk (Kd.R_drew HO_263000.out)
              replace HO_263001 := Aside0.mk (Kd.R_drew HO_263001.out)
              replace HO_263002 := Aside0.mk (Kd.R_drew HO_263002.out)
              replace BK218 := Aside0.mk (blk_drew BK218.out)
              replace BK249 := Aside0.mk (blk_drew BK249.out)
              replace BK262 := Aside0.mk (blk_drew BK262.out)
              replace HI0 := Aside0.mk (IsS88.drew HI0.out)
              replace HK := Aside0.mk (keep_drew HK.out)
              replace HB := Aside0.mk (below_drew1 HB.out)
              refine start_ (n := 7) (S := fun w' => SQ3 w' gb262 (.slice (some ⟨go52, 0, none⟩) x263000_3.length co52) (u263001) (u263002)) (ds := [6]) #[false, false, false, false, false, false, false] (by kernel_rfl) rfl rfl (bT3 BK262) (fun hHeld => ?_)
              generalize w59.drew = w60 at HO_6 HO_250002 HO_263000 HO_263001 HO_263002 BK218 BK249 BK262 HI0 HK HB HQ58 hHeld ⊢
              refine pJ 0 (some 57) ?_
              refine pJ 2 (some 59) ?_
              refine pJ 3 (some 60) ?_
              refine tJ 1 (some 58) hHeld ?_
              refine one_ (i := 4) (N := some 61) #[true, true, true, true, true, false, false] rfl rfl (by kernel_rfl) (by decide) (fun K hK => ?_)
              refine gO Try.func67 #[.pointer (some ⟨g, 0, none⟩), .int .i64 3] ?_
              with_reducible refine (spec_l01Below.calls g s0_0 t264 t265 3 t267 t268 t269 w0 _ ?side1 ?side2 A53.out).mono ?_
              (case side1 => exact iZ88 HI0)
              (case side2 => exact jZ88 HB HI0)
              rintro e w61 ⟨rfl, hi, hb, hk⟩
              refine ⟨_, rfl, ?_⟩
              replace HO_6 := Aside0.mk (Kd.R_mono (Kd.R_keep (IsS88.apart (show IsS88 w0 _ g s0_0 t264 t265 from iZ88 HI0) (rP HO_6) (by decide)) hk (fun _ h => h.2)) (fun _ h => h.1))
              replace HO_250002 := Aside0.mk (Kd.N_mono (Kd.N_keep (Kd.N_mono (ok := fun k_ => (((w.heap.size ≤ k_)) ∧ (some k_ ≠ (.slice Ao29 x6_3.length co29 : Value).ownBlock ∧ (some k_ ≠ (.slice (some ⟨go52, 0, none⟩) x263000_3.length co52 : Value).ownBlock ∧ (some k_ ≠ (u263001 : Value).ownBlock ∧ (some k_ ≠ (u263002 : Value).ownBlock ∧ (k_ ≠ gb218 ∧ (k_ ≠ gb249 ∧ (k_ ≠ gb262 ∧ k_ ≠ g))))))))) (by (with_reducible repeat (first | apply Kd.N_alloc | apply Kd.N_drewN | apply Kd.N_drew)); exact HO_250002.out) (fun k_ hk_ => (⟨hk_, hk_.2.2.2.2.2.2.2.2⟩ : _ ∧ k_ ≠ g))) hk (fun _ h => h.2)) (fun _ h => h.1))
              replace HO_263000 := Aside0.mk (Kd.R_mono (Kd.R_keep (IsS88.apart (show IsS88 w0 _ g s0_0 t264 t265 from iZ88 HI0) (rP HO_263000) (by decide)) hk (fun _ h => h.2)) (fun _ h => h.1))
              replace HO_263001 := Aside0.mk (Kd.R_mono (Kd.R_keep (IsS88.apart (show IsS88 w0 _ g s0_0 t264 t265 from iZ88 HI0) (rP HO_263001) (by decide)) hk (fun _ h => h.2)) (fun _ h => h.1))
              replace HO_263002 := Aside0.mk (Kd.R_mono (Kd.R_keep (IsS88.apart (show IsS88 w0 _ g s0_0 t264 t265 from iZ88 HI0) (rP HO_263002) (by decide)) hk (fun _ h => h.2)) (fun _ h => h.1))
              replace BK218 := Aside0.mk (KeepBut.blk hk (g' := gb218) (o := .cells #[.int .i64 0, .int .i64 0, .slice none 0 0] 32 (0, 0)) (bP BK218) NB218_0.out (by simp))
              replace BK249 := Aside0.mk (KeepBut.blk hk (g' := gb249) (o := .cells #[.int .i64 (wrap64 (2 + t233)), .int .i64 t246, u250002] 32 (0, 0)) (bP BK249) NB249_0.out (by simp))
              replace BK262 := Aside0.mk (KeepBut.blk hk (g' := gb262) (o := .cells #[.slice (some ⟨go52, 0, none⟩) x263000_3.length co52, u263001, u263002] 40 (0, 0)) (bP BK262) NB262_0.out (by simp))
              replace HK := Aside0.mk (KeepBut.trans (kZ HK) hk (.inl rfl))
              replace HB := Aside0.mk (hb)
              replace HI0 := Aside0.mk (hi)
              (try clear hb)
              have p55 : 0 ≤ (x10_3 : Int) := of_decide_eq_true (by first | (with_reducible assumption) | assumption)
              have q55 : (x10_3 : Int) < ((x263001_3.length : Int) : Int) := of_decide_eq_true (by first | (with_reducible assumption) | assumption)
              obtain ⟨go55, co55, eo55, gb55, gl55, cl55, HG55⟩ := Kd.R_form HO_263001.out (by omega)
              (first | cases eo55 | (injection eo55 with ea_ en_ ec_; (first | subst ea_ | (injection ea_ with ea_; subst ea_)); subst ec_; clear en_))
              have GB55 := Aside0.mk gb55
              have GG55 := Aside0.mk HG55
              clear gb55 gl55 HG55
              obtain ⟨hx55_0, hf55_0⟩ := Kd.R_celln 0 HO_263001.out (x10_3 : Int) p55 q55
              replace p55 := eq_true p55
              replace q55 := eq_true q55
              have HN0_go55 := Aside0.mk (show g ≠ go55 from by have h_ := IsS88.own_ne HI0.out HO_263001.out (by decide); intro e_; exact h_ (by rw [e_]; rfl))
              have HP62 := Kd.R_putn HO_263001.out (x10_3 : Int) t267
              rw [← Ny270.out] at HP62
              have HQ62 := Aside0.mk HP62
              clear HP62
              refine hK.out _ _ (bT3 BK262) (fun hHeld => ?_)
              clear hK K
              refine nO (some 61) ?_
              refine pJ 5 (some 62) ?_
              refine last_ (i := 6) (N := none) #[true, true, true, true, true, true, true] rfl rfl (by kernel_rfl) (by decide) (fun K hK => ?_)
              refine skip_ (w1 := ?_) (by rfl) rfl ?_ ?_
              rotate_left
              ·go_simp
               rfl
              refine hK.out _ _ ?_
              clear hK K
              refine done_ (by kernel_rfl) ?_
              try go_wp2
              (try simp only [← hl6_3])
              go_roundg k3
              case measure => have := HK1.out; have := HK2.out; have := HK3.out; omega
              case rel => exact ⟨(x6_3), (wrap64 (x10_3 + 1)), (t268), (t269), (y266), (y270), (x263002_3), (.slice (some ⟨go52, 0, none⟩) x263000_3.length co52), (.slice (some ⟨go55, 0, none⟩) x263001_3.length co55), (u263002), rS, H', ⟨by have := HK1.out; have := HK2.out; have := HK3.out; omega⟩, ⟨by (try simp only [hl6_2]); (try simp only [hl6_3]); (with_reducible repeat (first | apply Kd.R_alloc | apply Kd.R_drewN | apply Kd.R_drew)); exact Kd.R_mono (Kd.R_far (p := ⟨go55, (x10_3 : Int).toNat, none⟩) (Kd.R_mono HO_6.out (fun k_ hk => (⟨hk, fun e_ => hk.2.2.1 (by rw [e_]; rfl)⟩ : _ ∧ k_ ≠ go55))) (fun _ hk => hk.2) (.int .i64 t267)) (fun _ hk => ⟨hk.1.1, ⟨hk.1.2.1, ⟨hk.1.2.2.1, hk.1.2.2.2⟩⟩⟩)⟩, ⟨by (try simp only [hl6_2]); (try simp only [hl6_3]); (with_reducible repeat (first | apply Kd.N_alloc | apply Kd.N_drewN | apply Kd.N_drew)); exact Kd.N_mono (Kd.N_far (p := ⟨go55, (x10_3 : Int).toNat, none⟩) (Kd.N_mono HO_250002.out (fun k_ hk => (⟨hk, fun e_ => hk.2.2.2.1 (by rw [e_]; rfl)⟩ : _ ∧ k_ ≠ go55))) (fun _ hk => hk.2) (.int .i64 t267)) (fun _ hk => ⟨hk.1.1, ⟨hk.1.2.1, ⟨hk.1.2.2.1, ⟨hk.1.2.2.2.1, ⟨hk.1.2.2.2.2.1, ⟨hk.1.2.2.2.2.2.1, ⟨hk.1.2.2.2.2.2.2.1, ⟨hk.1.2.2.2.2.2.2.2.1, hk.1.2.2.2.2.2.2.2.2⟩⟩⟩⟩⟩⟩⟩⟩)⟩, ⟨by (try simp only [hl6_2]); (try simp only [hl6_3]); (with_reducible repeat (first | apply Kd.R_alloc | apply Kd.R_drewN | apply Kd.R_drew)); exact Kd.R_mono (Kd.R_far (p := ⟨go55, (x10_3 : Int).toNat, none⟩) (Kd.R_mono HO_263000.out (fun k_ hk => (⟨hk, fun e_ => hk.2.2.1 (by rw [e_]; rfl)⟩ : _ ∧ k_ ≠ go55))) (fun _ hk => hk.2) (.int .i64 t267)) (fun _ hk => ⟨hk.1.1, ⟨hk.1.2.1, ⟨hk.1.2.2.1, hk.1.2.2.2⟩⟩⟩)⟩, ⟨by (try simp only [hl6_2]); (try simp only [hl6_3]); (with_reducible repeat (first | apply Kd.R_alloc | apply Kd.R_drewN | apply Kd.R_drew)); exact HQ62.out⟩, ⟨by (try simp only [hl6_2]); (try simp only [hl6_3]); (with_reducible repeat (first | apply Kd.R_alloc | apply Kd.R_drewN | apply Kd.R_drew)); exact Kd.R_mono (Kd.R_far (p := ⟨go55, (x10_3 : Int).toNat, none⟩) (Kd.R_mono HO_263002.out (fun k_ hk => (⟨hk, fun e_ => hk.2.2.2 (by rw [e_]; rfl)⟩ : _ ∧ k_ ≠ go55))) (fun _ hk => hk.2) (.int .i64 t267)) (fun _ hk => ⟨hk.1.1, ⟨hk.1.2.1, ⟨hk.1.2.2.1, hk.1.2.2.2⟩⟩⟩)⟩, ⟨by (try simp only [hl6_2]); (try simp only [hl6_3]); (with_reducible repeat (first | refine blk_drewN ?_ _ | refine blk_drew ?_ | refine blk_alloc ?_ _)); refine blk_far ?_ (by have h_ := Kd.R_ne HO_263001.out BK218.out (by decide); intro e_; exact h_ (by rw [e_]; rfl)) _; (with_reducible repeat (first | refine blk_drewN ?_ _ | refine blk_drew ?_ | refine blk_alloc ?_ _)); exact BK218.out⟩, ⟨by (try simp only [hl6_2]); (try simp only [hl6_3]); (with_reducible repeat (first | refine blk_drewN ?_ _ | refine blk_drew ?_ | refine blk_alloc ?_ _)); refine blk_far ?_ (by have h_ := Kd.R_ne HO_263001.out BK249.out (by decide); intro e_; exact h_ (by rw [e_]; rfl)) _; (with_reducible repeat (first | refine blk_drewN ?_ _ | refine blk_drew ?_ | refine blk_alloc ?_ _)); exact BK249.out⟩, ⟨by (try simp only [hl6_2]); (try simp only [hl6_3]); (with_reducible repeat (first | refine blk_drewN ?_ _ | refine blk_drew ?_ | refine blk_alloc ?_ _)); refine blk_far ?_ (by have h_ := Kd.R_ne HO_263001.out BK262.out (by decide); intro e_; exact h_ (by rw [e_]; rfl)) _; (with_reducible repeat (first | refine blk_drewN ?_ _ | refine blk_drew ?_ | refine blk_alloc ?_ _)); exact BK262.out⟩, ⟨by repeat (first | (with_reducible first | exact HI0.out | apply IsS88.alloc | apply IsS88.drewN | apply IsS88.drew | apply IsS88.set_1 | apply IsS88.set_2 | refine IsS88.far ?_ HN0_go55.out _ | refine IsS88.far ?_ NB0_218.out _ | refine IsS88.far ?_ NB0_249.out _ | refine IsS88.far ?_ NB0_262.out _) | exact HI0.out)⟩, ⟨by repeat (first | (with_reducible first | exact HK.out | apply KeepBut.set_ | apply keep_drewN | apply keep_drew | apply keep_alloc | refine keep_far ?_ GB55.out _ | refine keep_far ?_ GW218.out _ | refine keep_far ?_ GW249.out _ | refine keep_far ?_ GW262.out _) | exact HK.out)⟩, ⟨by repeat (first | (with_reducible first | exact HB.out | apply below_alloc | apply pw_below_drewN | apply below_drew1 | refine below_set ?_ (Nat.le_trans HL.out GB55.out) | refine below_set ?_ (IsS88.ge HI0.out) | refine below_set ?_ GE218.out | refine below_set ?_ GE249.out | refine below_set ?_ GE262.out) | exact HB.out)⟩⟩
             ·rw [if_neg c54] at H
              exact absurd H (by simp)
            ·rw [if_neg c51] at H
             exact absurd H (by simp)
           ·rw [if_neg c50] at H
            exact absurd H (by simp)
          ·rw [if_neg c48] at H
           have c48b0 := decide_eq_false c48
           clear c48
           replace H := Option.bind_eq_some_iff.mp H
           obtain ⟨t271, A630, H⟩ := H
           have A63 := Aside0.mk A630
           clear A630
           replace H := Option.bind_eq_some_iff.mp H
           obtain ⟨t272, A640, H⟩ := H
           have A64 := Aside0.mk A640
           clear A640
           replace H := Option.bind_eq_some_iff.mp H
           obtain ⟨t273, A650, H⟩ := H
           have A65 := Aside0.mk A650
           clear A650
           by_cases c66 : 0 < (x263002_3.length : Int)
           ·rw [if_pos c66] at H
            have c66b0 := decide_eq_true c66
            have c66b1 : decide (0 < x263002_3.length) = true := decide_eq_true (by omega)
            clear c66
            obtain ⟨y274, hy274⟩ : ∃ y_ : List Int, y_ = (x263002_3.set (0 : Int).toNat t273) := ⟨_, rfl⟩
            replace H : (if x250002_2.length < 1954687338268 then (spec_l13System.l1 k3 (wrap64 (2 + t233)) x6_3 (wrap64 (x8_2 + 1)) s0_0 x1001_3 x1002_3 (wrap64 (2 + t233)) t246 (x250002_2 ++ [(⟨x263000_3, x263001_3, y274⟩ : S40)])) else (none)) = some (r1, r2, r3, r4, r5, r6) := by first | (rw [hy274]; with_reducible exact H) | (have H2_ := (Option.bind_some _ _).symm.trans H; rw [hy274]; with_reducible exact H2_) | (have H2_ := (Option.bind_some _ _).symm.trans H; with_reducible exact H2_) | with_reducible exact H | (rw [hy274]; exact H) | exact H
            have Ny274 := Aside0.mk hy274
            clear hy274
            by_cases c68 : x250002_2.length < 1954687338268
            ·rw [if_pos c68] at H
             have LMc68 := Aside0.mk c68
             clear c68
             obtain ⟨y275, hy275⟩ : ∃ y_ : List (S40), y_ = (x250002_2 ++ [(⟨x263000_3, x263001_3, y274⟩ : S40)]) := ⟨_, rfl⟩
             replace H : (spec_l13System.l1 k3 (wrap64 (2 + t233)) x6_3 (wrap64 (x8_2 + 1)) s0_0 x1001_3 x1002_3 (wrap64 (2 + t233)) t246 y275) = some (r1, r2, r3, r4, r5, r6) := by first | (rw [hy275]; with_reducible exact H) | (have H2_ := (Option.bind_some _ _).symm.trans H; rw [hy275]; with_reducible exact H2_) | (have H2_ := (Option.bind_some _ _).symm.trans H; with_reducible exact H2_) | with_reducible exact H | (rw [hy275]; exact H) | exact H
             have Ny275 := Aside0.mk hy275
             clear hy275
             have H' := Aside0.mk H
             clear H
             try go_wp2
             replace HO_6 := Aside0.mk (Kd.R_drew HO_6.out)
             replace HO_250002 := Aside0.mk (Kd.N_drew HO_250002.out)
             replace HO_263000 := Aside0.mk (Kd.R_drew HO_263000.out)
             replace HO_263001 := Aside0.mk (Kd.R_drew HO_263001.out)
             replace HO_263002 := Aside0.mk (Kd.R_drew HO_263002.out)
             replace BK218 := Aside0.mk (blk_drew BK218.out)
             replace BK249 := Aside0.mk (blk_drew BK249.out)
             replace BK262 := Aside0.mk (blk_drew BK262.out)
             replace HI0 := Aside0.mk (IsS88.drew HI0.out)
             replace HK := Aside0.mk (keep_drew HK.out)
             replace HB := Aside0.mk (below_drew1 HB.out)
             obtain ⟨Ao70, co70, eo70⟩ := Kd.R_slice HO_263000.out
             (first | subst eo70 | (injection eo70 with f1_ f2_ f3_; have f4_ := f1_.symm; have f5_ := f3_.symm; clear f1_ f2_ f3_; subst f4_; subst f5_))
             refine start_ (n := 13) (S := fun w' => SQ3 w' gb262 (.slice Ao70 x263000_3.length co70) (u263001) (u263002)) (ds := [12]) #[false, false, false, false, false, false, false, false, false, false, false, false, false] (by kernel_rfl) rfl rfl (bT3 BK262) (fun hHeld => ?_); refine with_tabW spec_l13System.tab18 spec_l13System.bits18 (fun HT_ HW_ => ?_)
             generalize wr.drew = w69 at HO_6 HO_250002 HO_263000 HO_263001 HO_263002 BK218 BK249 BK262 HI0 HK HB hHeld ⊢
             refine pI 0 (some 63) HT_.out ?_
             refine pI 2 (some 65) HT_.out ?_
             refine pI 4 (some 67) HT_.out ?_
             refine pI 6 (some 69) HT_.out ?_
             refine pI 8 (some 71) HT_.out ?_
             refine tI3 1 (some 64) HT_.out HW_.out hHeld ?_
             refine tI3 3 (some 66) HT_.out HW_.out hHeld ?_
             refine tI3 7 (some 70) HT_.out HW_.out hHeld ?_
             refine oI 5 (some 68) HT_.out (fun K hK => ?_)
             refine gO Try.func29 #[.slice Ao70 x263000_3.length co70, .slice Ao29 x6_3.length co29] ?_
             with_reducible refine (spec_ScDot.calls k3 _ _ x263000_3 _ _ x6_3 t271 _ ?side1 ?side2 ?side3 ?side4 A63.out).mono ?_
             (case side1 => exact cP ((Kd.R_reads' HO_263000.out).2.2))
             (case side2 => exact (Kd.R_reads' HO_263000.out).2.1)
             (case side3 => exact cP ((Kd.R_reads' HO_6.out).2.2))
             (case side4 => exact (Kd.R_reads' HO_6.out).2.1)
             rintro e w' ⟨rfl, ⟨nd, rfl⟩⟩
             refine ⟨_, rfl, ?_⟩
             obtain ⟨Ao71, co71, eo71⟩ := Kd.R_slice HO_263001.out
             (first | subst eo71 | (injection eo71 with f1_ f2_ f3_; have f4_ := f1_.symm; have f5_ := f3_.symm; clear f1_ f2_ f3_; subst f4_; subst f5_))
             refine hK.out _ _ (bT3 BK262) (fun hHeld => ?_)
             clear hK K
             refine nO (some 68) ?_
             refine oI 9 (some 72) HT_.out (fun K hK => ?_)
             refine gO Try.func29 #[.slice Ao71 x263001_3.length co71, .slice Ao29 x6_3.length co29] ?_
             with_reducible refine (spec_ScDot.calls k3 _ _ x263001_3 _ _ x6_3 t272 _ ?side1 ?side2 ?side3 ?side4 A64.out).mono ?_
             (case side1 => exact cP ((Kd.R_reads' HO_263001.out).2.2))
             (case side2 => exact (Kd.R_reads' HO_263001.out).2.1)
             (case side3 => exact cP ((Kd.R_reads' HO_6.out).2.2))
             (case side4 => exact (Kd.R_reads' HO_6.out).2.1)
             rintro e w' ⟨rfl, ⟨nd, rfl⟩⟩
             refine ⟨_, rfl, ?_⟩
             refine hK.out _ _ (bT3 BK262) (fun hHeld => ?_)
             clear hK K
             refine nO (some 72) ?_
             refine oI 10 (some 73) HT_.out (fun K hK => ?_)
             refine gO Try.func28 #[.int .i64 t271, .int .i64 t272] ?_
             with_reducible refine (spec_ScMul.calls t271 t272 t273 _ A65.out).mono ?_
             rintro e w' ⟨rfl, ⟨nd, rfl⟩⟩
             refine ⟨_, rfl, ?_⟩
             have p67 : 0 ≤ (0 : Int) := (by omega)
             have q67 : (0 : Int) < ((x263002_3.length : Int) : Int) := of_decide_eq_true (by first | (with_reducible assumption) | assumption)
             have qi67 : (0 < x263002_3.length) = True := eq_true (by omega)
             obtain ⟨go67, co67, eo67, gb67, gl67, cl67, HG67⟩ := Kd.R_form HO_263002.out (by omega)
             (first | cases eo67 | (injection eo67 with ea_ en_ ec_; (first | subst ea_ | (injection ea_ with ea_; subst ea_)); subst ec_; clear en_))
             have GB67 := Aside0.mk gb67
             have GG67 := Aside0.mk HG67
             clear gb67 gl67 HG67
             obtain ⟨hx67_0, hf67_0⟩ := Kd.R_celln 0 HO_263002.out (0 : Int) p67 q67
             (try rw [show ((0 : Int)).toNat = 0 from rfl] at hx67_0)
             (try simp only [Nat.reduceMul, Nat.zero_mul, Nat.zero_add, Nat.reduceAdd] at hx67_0)
             (try rw [show ((0 : Int)).toNat = 0 from rfl] at hf67_0)
             (try simp only [Nat.reduceMul, Nat.zero_mul, Nat.zero_add, Nat.reduceAdd] at hf67_0)
             replace p67 := eq_true p67
             replace q67 := eq_true q67
             have HN0_go67 := Aside0.mk (show g ≠ go67 from by have h_ := IsS88.own_ne HI0.out HO_263002.out (by decide); intro e_; exact h_ (by rw [e_]; rfl))
             have HP72 := Kd.R_putn HO_263002.out (0 : Int) t273
             rw [← Ny274.out] at HP72
             have HQ72 := Aside0.mk HP72
             clear HP72
             refine hK.out _ _ (bT3 BK262) (fun hHeld => ?_)
             clear hK K
             refine nO (some 73) ?_
             refine pI 11 (some 74) HT_.out ?_
             refine last_ (i := 12) (N := none) #[true, true, true, true, true, true, true, true, true, true, true, true, true] rfl rfl (one_of HT_.out (by kernel_rfl)) (by decide) (fun K hK => ?_)
             refine skip_ (w1 := ?_) (by rfl) rfl ?_ ?_
             rotate_left
             ·go_simp
              rfl
             refine hK.out _ _ ?_
             clear hK K
             refine done_ (done_of HT_.out (by kernel_rfl)) ?_
             obtain ⟨w73, hW_⟩ : ∃ W_ : World, W_ = (w69.setCell ⟨go67, 0, none⟩ (.int .i64 t273)) := ⟨_, rfl⟩
             have n0_ : Aside0 (Kd.R (Kd.int .i64) 3 (w69.setCell ⟨go67, 0, none⟩ (.int .i64 t273)) w.heap.size (fun k_ => (w.heap.size ≤ k_) ∧ some k_ ≠ (.slice Ao70 x263000_3.length co70 : Value).ownBlock ∧ some k_ ≠ (.slice Ao71 x263001_3.length co71 : Value).ownBlock ∧ some k_ ≠ (.slice (some ⟨go67, 0, none⟩) x263002_3.length co67 : Value).ownBlock) (.slice Ao29 x6_3.length co29) x6_3) := ⟨by (with_reducible repeat (first | apply Kd.R_alloc | apply Kd.R_drewN | apply Kd.R_drew)); exact Kd.R_mono (Kd.R_far (p := ⟨go67, 0, none⟩) (Kd.R_mono HO_6.out (fun k_ hk => (⟨hk, fun e_ => hk.2.2.2 (by rw [e_]; rfl)⟩ : _ ∧ k_ ≠ go67))) (fun _ hk => hk.2) (.int .i64 t273)) (fun _ hk => ⟨hk.1.1, ⟨hk.1.2.1, ⟨hk.1.2.2.1, hk.1.2.2.2⟩⟩⟩)⟩
             rw [← hW_] at n0_
             have n1_ : Aside0 (Kd.N k40 40 (w69.setCell ⟨go67, 0, none⟩ (.int .i64 t273)) w.heap.size (fun k_ => (w.heap.size ≤ k_) ∧ some k_ ≠ (.slice Ao29 x6_3.length co29 : Value).ownBlock ∧ some k_ ≠ (.slice Ao70 x263000_3.length co70 : Value).ownBlock ∧ some k_ ≠ (.slice Ao71 x263001_3.length co71 : Value).ownBlock ∧ some k_ ≠ (.slice (some ⟨go67, 0, none⟩) x263002_3.length co67 : Value).ownBlock ∧ k_ ≠ gb218 ∧ k_ ≠ gb249 ∧ k_ ≠ gb262 ∧ k_ ≠ g) u250002 x250002_2) := ⟨by (with_reducible repeat (first | apply Kd.N_alloc | apply Kd.N_drewN | apply Kd.N_drew)); exact Kd.N_mono (Kd.N_far (p := ⟨go67, 0, none⟩) (Kd.N_mono HO_250002.out (fun k_ hk => (⟨hk, fun e_ => hk.2.2.2.2.1 (by rw [e_]; rfl)⟩ : _ ∧ k_ ≠ go67))) (fun _ hk => hk.2) (.int .i64 t273)) (fun _ hk => ⟨hk.1.1, ⟨hk.1.2.1, ⟨hk.1.2.2.1, ⟨hk.1.2.2.2.1, ⟨hk.1.2.2.2.2.1, ⟨hk.1.2.2.2.2.2.1, ⟨hk.1.2.2.2.2.2.2.1, ⟨hk.1.2.2.2.2.2.2.2.1, hk.1.2.2.2.2.2.2.2.2⟩⟩⟩⟩⟩⟩⟩⟩)⟩
             rw [← hW_] at n1_
             have n2_ : Aside0 (Kd.R (Kd.int .i64) 3 (w69.setCell ⟨go67, 0, none⟩ (.int .i64 t273)) w.heap.size (fun k_ => (w.heap.size ≤ k_) ∧ some k_ ≠ (.slice Ao29 x6_3.length co29 : Value).ownBlock ∧ some k_ ≠ (.slice Ao71 x263001_3.length co71 : Value).ownBlock ∧ some k_ ≠ (.slice (some ⟨go67, 0, none⟩) x263002_3.length co67 : Value).ownBlock) (.slice Ao70 x263000_3.length co70) x263000_3) := ⟨by (with_reducible repeat (first | apply Kd.R_alloc | apply Kd.R_drewN | apply Kd.R_drew)); exact Kd.R_mono (Kd.R_far (p := ⟨go67, 0, none⟩) (Kd.R_mono HO_263000.out (fun k_ hk => (⟨hk, fun e_ => hk.2.2.2 (by rw [e_]; rfl)⟩ : _ ∧ k_ ≠ go67))) (fun _ hk => hk.2) (.int .i64 t273)) (fun _ hk => ⟨hk.1.1, ⟨hk.1.2.1, ⟨hk.1.2.2.1, hk.1.2.2.2⟩⟩⟩)⟩
             rw [← hW_] at n2_
             have n3_ : Aside0 (Kd.R (Kd.int .i64) 3 (w69.setCell ⟨go67, 0, none⟩ (.int .i64 t273)) w.heap.size (fun k_ => (w.heap.size ≤ k_) ∧ some k_ ≠ (.slice Ao29 x6_3.length co29 : Value).ownBlock ∧ some k_ ≠ (.slice Ao70 x263000_3.length co70 : Value).ownBlock ∧ some k_ ≠ (.slice (some ⟨go67, 0, none⟩) x263002_3.length co67 : Value).ownBlock) (.slice Ao71 x263001_3.length co71) x263001_3) := ⟨by (with_reducible repeat (first | apply Kd.R_alloc | apply Kd.R_drewN | apply Kd.R_drew)); exact Kd.R_mono (Kd.R_far (p := ⟨go67, 0, none⟩) (Kd.R_mono HO_263001.out (fun k_ hk => (⟨hk, fun e_ => hk.2.2.2 (by rw [e_]; rfl)⟩ : _ ∧ k_ ≠ go67))) (fun _ hk => hk.2) (.int .i64 t273)) (fun _ hk => ⟨hk.1.1, ⟨hk.1.2.1, ⟨hk.1.2.2.1, hk.1.2.2.2⟩⟩⟩)⟩
             rw [← hW_] at n3_
             have n4_ : Aside0 (Kd.R (Kd.int .i64) 3 (w69.setCell ⟨go67, 0, none⟩ (.int .i64 t273)) w.heap.size (fun k_ => (w.heap.size ≤ k_) ∧ some k_ ≠ (.slice Ao29 x6_3.length co29 : Value).ownBlock ∧ some k_ ≠ (.slice Ao70 x263000_3.length co70 : Value).ownBlock ∧ some k_ ≠ (.slice Ao71 x263001_3.length co71 : Value).ownBlock) (.slice (some ⟨go67, 0, none⟩) x263002_3.length co67) y274) := ⟨rP HQ72⟩
             rw [← hW_] at n4_
             have n5_ : Aside0 ((w69.setCell ⟨go67, 0, none⟩ (.int .i64 t273)).heap[gb218]? = some (.cells #[.int .i64 0, .int .i64 0, .slice none 0 0] 32 (0, 0))) := ⟨by (with_reducible repeat (first | refine blk_drewN ?_ _ | refine blk_drew ?_ | refine blk_alloc ?_ _)); refine blk_far ?_ (by have h_ := Kd.R_ne HO_263002.out BK218.out (by decide); intro e_; exact h_ (by rw [e_]; rfl)) _; (with_reducible repeat (first | refine blk_drewN ?_ _ | refine blk_drew ?_ | refine blk_alloc ?_ _)); exact BK218.out⟩
             rw [← hW_] at n5_
             have n6_ : Aside0 ((w69.setCell ⟨go67, 0, none⟩ (.int .i64 t273)).heap[gb249]? = some (.cells #[.int .i64 (wrap64 (2 + t233)), .int .i64 t246, u250002] 32 (0, 0))) := ⟨by (with_reducible repeat (first | refine blk_drewN ?_ _ | refine blk_drew ?_ | refine blk_alloc ?_ _)); refine blk_far ?_ (by have h_ := Kd.R_ne HO_263002.out BK249.out (by decide); intro e_; exact h_ (by rw [e_]; rfl)) _; (with_reducible repeat (first | refine blk_drewN ?_ _ | refine blk_drew ?_ | refine blk_alloc ?_ _)); exact BK249.out⟩
             rw [← hW_] at n6_
             have n7_ : Aside0 ((w69.setCell ⟨go67, 0, none⟩ (.int .i64 t273)).heap[gb262]? = some (.cells #[.slice Ao70 x263000_3.length co70, .slice Ao71 x263001_3.length co71, .slice (some ⟨go67, 0, none⟩) x263002_3.length co67] 40 (0, 0))) := ⟨by (with_reducible repeat (first | refine blk_drewN ?_ _ | refine blk_drew ?_ | refine blk_alloc ?_ _)); refine blk_far ?_ (by have h_ := Kd.R_ne HO_263002.out BK262.out (by decide); intro e_; exact h_ (by rw [e_]; rfl)) _; (with_reducible repeat (first | refine blk_drewN ?_ _ | refine blk_drew ?_ | refine blk_alloc ?_ _)); exact BK262.out⟩
             rw [← hW_] at n7_
             have n8_ : Aside0 (IsS88 w0 (w69.setCell ⟨go67, 0, none⟩ (.int .i64 t273)) g s0_0 x1001_3 x1002_3) := ⟨by repeat (first | (with_reducible first | exact HI0.out | apply IsS88.alloc | apply IsS88.drewN | apply IsS88.drew | apply IsS88.set_1 | apply IsS88.set_2 | refine IsS88.far ?_ HN0_go67.out _ | refine IsS88.far ?_ NB0_218.out _ | refine IsS88.far ?_ NB0_249.out _ | refine IsS88.far ?_ NB0_262.out _) | exact HI0.out)⟩
             rw [← hW_] at n8_
             have n9_ : Aside0 (KeepBut w (w69.setCell ⟨go67, 0, none⟩ (.int .i64 t273)) g none) := ⟨by repeat (first | (with_reducible first | exact HK.out | apply KeepBut.set_ | apply keep_drewN | apply keep_drew | apply keep_alloc | refine keep_far ?_ GB67.out _ | refine keep_far ?_ GW218.out _ | refine keep_far ?_ GW249.out _ | refine keep_far ?_ GW262.out _) | exact HK.out)⟩
             rw [← hW_] at n9_
             have n10_ : Aside0 (Below w0.heap.size w0 (w69.setCell ⟨go67, 0, none⟩ (.int .i64 t273))) := ⟨by repeat (first | (with_reducible first | exact HB.out | apply below_alloc | apply pw_below_drewN | apply below_drew1 | refine below_set ?_ (Nat.le_trans HL.out GB67.out) | refine below_set ?_ (IsS88.ge HI0.out) | refine below_set ?_ GE218.out | refine below_set ?_ GE249.out | refine below_set ?_ GE262.out) | exact HB.out)⟩
             rw [← hW_] at n10_
             (try clear HO_6)
             (try clear HO_250002)
             (try clear HO_263000)
             (try clear HO_263001)
             (try clear HO_263002)
             (try clear BK218)
             (try clear BK249)
             (try clear BK262)
             (try clear HI0)
             (try clear HK)
             (try clear HB)
             have HO_6 := n0_
             clear n0_
             have HO_250002 := n1_
             clear n1_
             have HO_263000 := n2_
             clear n2_
             have HO_263001 := n3_
             clear n3_
             have HO_263002 := n4_
             clear n4_
             have BK218 := n5_
             clear n5_
             have BK249 := n6_
             clear n6_
             have BK262 := n7_
             clear n7_
             have HI0 := n8_
             clear n8_
             have HK := n9_
             clear n9_
             have HB := n10_
             clear n10_
             first | rw [← hW_] | rw [show ∀ (w_ : World) (n_ : Nat) (p_ : Addr) (v_ : Value), (w_.drewN n_).setCell p_ v_ = (w_.setCell p_ v_).drewN n_ from fun _ _ _ _ => rfl, ← hW_]
             clear hW_
             obtain ⟨hnb74, hnc74⟩ := nB NB249_218
             obtain ⟨hnb75, hnc75⟩ := nB NB249_262
             obtain ⟨hnb76, hnc76⟩ := nB NB249_0
             obtain ⟨hcz77_0, hcz77_1, hcz77_2, hfz77_0, hfz77_1, hfz77_2⟩ := bK3 (w := w73) BK249
             obtain ⟨hnb78, hnc78⟩ := nB NB262_218
             obtain ⟨hnb79, hnc79⟩ := nB NB262_0
             obtain ⟨hcz80_0, hcz80_1, hcz80_2, hfz80_0, hfz80_1, hfz80_2⟩ := bK3 (w := w73) BK262
             try go_wp2_with (first | ((with_reducible refine gate_builtin (b := .append) (xs := #[.tmp 76, .tmp 78]) rfl ?_); at_builtin; refine Kd.N_append k40 w.heap.size rfl (.tmp 76) (.tmp 78) 30 40 (.agg #[(.slice none 0 0), (.slice none 0 0), (.slice none 0 0)]) 72 rfl Try.underlying30 info40 rfl (by decide) (by omega) u250002 x250002_2 (⟨x263000_3, x263001_3, y274⟩ : S40) [.slice Ao70 x263000_3.length co70, .slice Ao71 x263001_3.length co71, .slice (some ⟨go67, 0, none⟩) x263002_3.length co67] (fun k_ => (w.heap.size ≤ k_) ∧ some k_ ≠ (.slice Ao29 x6_3.length co29 : Value).ownBlock ∧ k_ ≠ gb218 ∧ k_ ≠ gb249 ∧ k_ ≠ gb262 ∧ k_ ≠ g) (fun k_ => ((fun k_ => (w.heap.size ≤ k_) ∧ some k_ ≠ (.slice Ao29 x6_3.length co29 : Value).ownBlock ∧ k_ ≠ gb218 ∧ k_ ≠ gb249 ∧ k_ ≠ gb262 ∧ k_ ≠ g)) k_ ∧ some k_ ≠ (u250002 : Value).ownBlock) rfl rfl ?aP (fun _ hk => hk) ?aF ?aO (Below.refl _ _) ?aS ?aL ?_; (case aP => exact (k40_mkFV _ _ _ (⟨x263000_3, x263001_3, y274⟩ : S40) (Kd.R_mono (ok' := (fun k_ => ((fun k_ => (w.heap.size ≤ k_) ∧ some k_ ≠ (.slice Ao29 x6_3.length co29 : Value).ownBlock ∧ k_ ≠ gb218 ∧ k_ ≠ gb249 ∧ k_ ≠ gb262 ∧ k_ ≠ g)) k_ ∧ some k_ ≠ (u250002 : Value).ownBlock)) (IsS88.apart HI0.out (Kd.R_types (Kd.R_types (Kd.R_types (Kd.R_apart' (HO_263000.out) (Kd.N_typed HO_250002.out) (by decide)) BK218.out (by decide)) BK249.out (by decide)) BK262.out (by decide)) (by decide)) (fun k_ hk => ⟨⟨hk.1.1.1.1.1.1, ⟨hk.1.1.1.1.1.2.1, ⟨hk.1.1.1.2, ⟨hk.1.1.2, ⟨hk.1.2, hk.2⟩⟩⟩⟩⟩, hk.1.1.1.1.2⟩)) (Kd.R_mono (ok' := (fun k_ => ((fun k_ => (w.heap.size ≤ k_) ∧ some k_ ≠ (.slice Ao29 x6_3.length co29 : Value).ownBlock ∧ k_ ≠ gb218 ∧ k_ ≠ gb249 ∧ k_ ≠ gb262 ∧ k_ ≠ g)) k_ ∧ some k_ ≠ (u250002 : Value).ownBlock)) (IsS88.apart HI0.out (Kd.R_types (Kd.R_types (Kd.R_types (Kd.R_apart' (HO_263001.out) (Kd.N_typed HO_250002.out) (by decide)) BK218.out (by decide)) BK249.out (by decide)) BK262.out (by decide)) (by decide)) (fun k_ hk => ⟨⟨hk.1.1.1.1.1.1, ⟨hk.1.1.1.1.1.2.1, ⟨hk.1.1.1.2, ⟨hk.1.1.2, ⟨hk.1.2, hk.2⟩⟩⟩⟩⟩, hk.1.1.1.1.2⟩)) (Kd.R_mono (ok' := (fun k_ => ((fun k_ => (w.heap.size ≤ k_) ∧ some k_ ≠ (.slice Ao29 x6_3.length co29 : Value).ownBlock ∧ k_ ≠ gb218 ∧ k_ ≠ gb249 ∧ k_ ≠ gb262 ∧ k_ ≠ g)) k_ ∧ some k_ ≠ (u250002 : Value).ownBlock)) (IsS88.apart HI0.out (Kd.R_types (Kd.R_types (Kd.R_types (Kd.R_apart' (HO_263002.out) (Kd.N_typed HO_250002.out) (by decide)) BK218.out (by decide)) BK249.out (by decide)) BK262.out (by decide)) (by decide)) (fun k_ hk => ⟨⟨hk.1.1.1.1.1.1, ⟨hk.1.1.1.1.1.2.1, ⟨hk.1.1.1.2, ⟨hk.1.1.2, ⟨hk.1.2, hk.2⟩⟩⟩⟩⟩, hk.1.1.1.1.2⟩)))); (case aF => exact (fun k_ hk => ⟨(Nat.le_trans (keep_size (w := w) (g := g) (row := none) (kZ HK)) hk), Kd.fresh' (Kd.R_lt (rP HO_6)) k_ hk, Kd.freshB (bP BK218) k_ hk, Kd.freshB (bP BK249) k_ hk, Kd.freshB (bP BK262) k_ hk, IsS88.fresh (iZ88 HI0) k_ hk⟩)); (case aO => exact (by (with_reducible repeat (first | apply Kd.N_alloc | apply Kd.N_drewN | apply Kd.N_drew)); exact Kd.N_mono HO_250002.out (fun _ hk => ⟨hk.1, ⟨hk.2.1, ⟨hk.2.2.2.2.2.1, ⟨hk.2.2.2.2.2.2.1, ⟨hk.2.2.2.2.2.2.2.1, hk.2.2.2.2.2.2.2.2⟩⟩⟩⟩⟩))); (case aS => exact (keep_size (w := w) (g := g) (row := none) (kZ HK))); (case aL => have := LMc68.out; omega); intro v276 w81 ho hb hg hat; rw [← Ny275.out] at ho; replace HO_6 := Aside0.mk (Kd.R_over' (rP HO_6) (Kd.N_typed (by (with_reducible repeat (first | apply Kd.N_alloc | apply Kd.N_drewN | apply Kd.N_drew)); exact HO_250002.out)) (by decide) hg); replace BK218 := Aside0.mk (blk_grown (bP BK218) hg (Kd.N_ne HO_250002.out BK218.out (by decide))); replace BK249 := Aside0.mk (blk_grown (bP BK249) hg (Kd.N_ne HO_250002.out BK249.out (by decide))); replace BK262 := Aside0.mk (blk_grown (bP BK262) hg (Kd.N_away HO_250002.out (fun _ hk => hk.2.2.2.2.2.2.2.1))); replace HB := Aside0.mk (below_weaken (jZ88 HB HI0) HL.out hb); replace HI0 := Aside0.mk (IsS88.grown (iZ88 HI0) hg (IsS88.own_neN HI0.out HO_250002.out (by decide))); replace HK := Aside0.mk (KeepBut.trans (kZ HK) (KeepBut.of_grown hg g) (Kd.N_base2 HO_250002.out)); have HO277 := Aside0.mk (ho); clear HO_250002 HO_263000 HO_263001 HO_263002; clear ho hb hg hat; obtain ⟨Ao82, co82, eo82⟩ := Kd.N_slice HO277.out; subst eo82; obtain ⟨hcz83_0, hcz83_1, hcz83_2, hfz83_0, hfz83_1, hfz83_2⟩ := bK3 (w := w81) BK249))
             (try simp only [← hl6_2, ← hl6_3])
             go_roundg k3
             case measure => have := HK1.out; have := HK2.out; have := HK3.out; omega
             case rel => exact ⟨(x6_3), (wrap64 (x8_2 + 1)), (x1001_3), (x1002_3), (y275), (.slice Ao82 y275.length co82), rS, H', ⟨by have := HK1.out; have := HK2.out; have := HK3.out; omega⟩, ⟨by (try simp only [hl6_2]); (try simp only [hl6_3]); (with_reducible repeat (first | apply Kd.R_alloc | apply Kd.R_drewN | apply Kd.R_drew)); exact Kd.R_mono (Kd.R_far (p := ⟨gb249, 2, none⟩) (Kd.R_types HO_6.out BK249.out (by decide)) (fun _ hk => hk.2) (.slice Ao82 y275.length co82)) (fun _ hk => hk.1.1)⟩, ⟨by (try simp only [hl6_2]); (try simp only [hl6_3]); (with_reducible repeat (first | apply Kd.N_alloc | apply Kd.N_drewN | apply Kd.N_drew)); exact Kd.N_mono (Kd.N_far (p := ⟨gb249, 2, none⟩) (Kd.N_mono HO277.out (fun k_ hk => (⟨hk, hk.2.2.2.1⟩ : _ ∧ k_ ≠ gb249))) (fun _ hk => hk.2) (.slice Ao82 y275.length co82)) (fun _ hk => ⟨hk.1.1, ⟨hk.1.2.1, ⟨hk.1.2.2.1, ⟨hk.1.2.2.2.1, hk.1.2.2.2.2.2⟩⟩⟩⟩)⟩, ⟨by (try simp only [hl6_2]); (try simp only [hl6_3]); (with_reducible repeat (first | refine blk_drewN ?_ _ | refine blk_drew ?_ | refine blk_alloc ?_ _)); refine blk_far ?_ NB218_249.out _; (with_reducible repeat (first | refine blk_drewN ?_ _ | refine blk_drew ?_ | refine blk_alloc ?_ _)); exact BK218.out⟩, ⟨by (try simp only [hl6_2]); (try simp only [hl6_3]); (with_reducible repeat (first | refine blk_drewN ?_ _ | refine blk_drew ?_ | refine blk_alloc ?_ _)); refine blk_put (cs := #[.int .i64 (wrap64 (2 + t233)), .int .i64 t246, u250002]) ?_ 2 _ rfl; (with_reducible repeat (first | refine blk_drewN ?_ _ | refine blk_drew ?_ | refine blk_alloc ?_ _)); exact BK249.out⟩, ⟨iZ88 HI0⟩, ⟨kZ HK⟩, ⟨jZ88 HB HI0⟩⟩
            ·rw [if_neg c68] at H
             exact absurd H (by simp)
           ·rw [if_neg c66] at H
            exact absurd H (by simp)
       ·rw [if_neg c36] at H
        have c36b0 := decide_eq_false c36
        clear c36
        simp only [Option.some.injEq, Prod.mk.injEq] at H
        obtain ⟨rfl, rfl, rfl, rfl, rfl, rfl⟩ := H
        go_wp2_with (first | (refine gC (some 39) Try.func67 #[.pointer (some ⟨g, 0, none⟩), .int .i64 4] ?_; (with_reducible refine (spec_l01Below.calls g s0_0 x1001_2 x1002_2 4 t250 t251 t252 w0 _ ?side1 ?side2 A35.out).mono ?_); (case side1 => exact iZ88 HI0); (case side2 => exact jZ88 HB HI0); rintro e w84 ⟨rfl, hi, hb, hk⟩; refine ⟨_, rfl, ?_⟩; replace HO_6 := Aside0.mk (Kd.R_mono (Kd.R_keep (IsS88.apart (show IsS88 w0 _ g s0_0 x1001_2 x1002_2 from iZ88 HI0) (rP HO_6) (by decide)) hk (fun _ h => h.2)) (fun _ h => h.1)); replace HO_250002 := Aside0.mk (Kd.N_mono (Kd.N_keep (Kd.N_mono (ok := fun k_ => (((w.heap.size ≤ k_)) ∧ (some k_ ≠ (.slice Ao29 x6_2.length co29 : Value).ownBlock ∧ (k_ ≠ gb218 ∧ (k_ ≠ gb249 ∧ k_ ≠ g))))) (by (with_reducible repeat (first | apply Kd.N_alloc | apply Kd.N_drewN | apply Kd.N_drew)); exact HO_250002.out) (fun k_ hk_ => (⟨hk_, hk_.2.2.2.2⟩ : _ ∧ k_ ≠ g))) hk (fun _ h => h.2)) (fun _ h => h.1)); replace BK218 := Aside0.mk (KeepBut.blk hk (g' := gb218) (o := .cells #[.int .i64 0, .int .i64 0, .slice none 0 0] 32 (0, 0)) (bP BK218) NB218_0.out (by simp)); replace BK249 := Aside0.mk (KeepBut.blk hk (g' := gb249) (o := .cells #[.int .i64 (wrap64 (2 + t233)), .int .i64 t246, u250002] 32 (0, 0)) (bP BK249) NB249_0.out (by simp)); replace HK := Aside0.mk (KeepBut.trans (kZ HK) hk (.inl rfl)); replace HB := Aside0.mk (hb); replace HI0 := Aside0.mk (hi); (try clear hb); obtain ⟨hnb85, hnc85⟩ := nB NB249_218; obtain ⟨hnb86, hnc86⟩ := nB NB249_0; obtain ⟨hcz87_0, hcz87_1, hcz87_2, hfz87_0, hfz87_1, hfz87_2⟩ := bK3 (w := w84) BK249; obtain ⟨hnb88, hnc88⟩ := nB NB218_0; obtain ⟨hcz89_0, hcz89_1, hcz89_2, hfz89_0, hfz89_1, hfz89_2⟩ := bK3 (w := w84) BK218; obtain ⟨Ao90, co90, eo90⟩ := Kd.N_slice HO_250002.out; subst eo90))
        refine bodyPost_ret (results_ct rfl _ _ gb218 32 #[.int .i64 (wrap64 (2 + t233)), .int .i64 t246, .slice Ao90 x250002_2.length co90] (0, 0) _ rfl (bU BK218) Try.underlying32 rfl (by kernel_rfl)) rfl ?_
        exact ⟨_, _, by first | rfl | (simp [errW_none, errW_some] <;> rfl) | (simp [*, errW_none, errW_some] <;> rfl), by (with_reducible repeat (first | apply Kd.N_alloc | apply Kd.N_drewN | apply Kd.N_drew)); exact Kd.N_mono (Kd.N_far (p := ⟨gb218, 2, none⟩) (Kd.N_far (p := ⟨gb218, 1, none⟩) (Kd.N_far (p := ⟨gb218, 0, none⟩) (Kd.N_mono HO_250002.out (fun k_ hk => (⟨hk, hk.2.2.1⟩ : _ ∧ k_ ≠ gb218))) (fun _ hk => hk.2) (.int .i64 (wrap64 (2 + t233)))) (fun _ hk => hk.2) (.int .i64 t246)) (fun _ hk => hk.2) (.slice Ao90 x250002_2.length co90)) (fun _ hk => ⟨hk.1.1, hk.1.2.1⟩), by (with_reducible repeat (first | apply Kd.R_alloc | apply Kd.R_drewN | apply Kd.R_drew)); exact Kd.R_mono (Kd.R_far (p := ⟨gb218, 2, none⟩) (Kd.R_far (p := ⟨gb218, 1, none⟩) (Kd.R_far (p := ⟨gb218, 0, none⟩) (Kd.R_types HO_6.out BK218.out (by decide)) (fun _ hk => hk.2) (.int .i64 (wrap64 (2 + t233)))) (fun _ hk => hk.2) (.int .i64 t246)) (fun _ hk => hk.2) (.slice Ao90 x250002_2.length co90)) (fun _ hk => hk.1), iZ88 HI0, jZ88 HB HI0, kZ HK⟩
end Go.Proofs.Ytcnejiflpioaiaa.Pf
end
section
namespace Go.Proofs.Ytcnejiflpioaiaa.Pf
open Go.RowKit Go.Proofs.YtcnejiflpioaiaaW.PrintWords Go.Proofs.YtcnejiflpioaiaaW.PrintLast Go.Proofs.YtcnejiflpioaiaaW.PrintMore
attribute [local go_sem] max2_int min2_int max_two min_two max_three min_three max_four min_four   -- for this text's walks alone
set_option linter.unusedVariables false
set_option linter.unusedSimpArgs false
def spec_l01New.l0 : Nat → List Int → Int → Int → Option (List Int × Int × Int)
 | 0, _, _, _ => none
 | k + 1, x0, x3, x4 => if x4 < (x0.length : Int) then (if x4 < 4000 then (if 0 ≤ x4 then (spec_l01New.l0 k x0 (Go.bits .and .i64 (wrap64 ((wrap64 ((wrap64 (x3 * 131)) + (wrap64 (rd x0 x4)))) + 7)) 1073741823) (wrap64 (x4 + 1))) else (none)) else (some (x0, 0, x3))) else (some (x0, 0, x3))
def spec_l01New.f (k : Nat) (l0 : List Int) : Option (List Int × Int × Int) := spec_l01New.l0 k l0 (wrap64 (76801 + (l0.length : Int))) 0
set_option maxHeartbeats 8000000 in
set_option maxRecDepth 100000 in
theorem spec_l01New.calls (k : Nat) (A0 : Option Addr) (c0 : Nat) (l0 : List Int) (r1 : List Int) (r2 : Int) (r3 : Int) (w0 w : World) (hB : Below w0.heap.size w0 w) (hr0 : Kd.C (Kd.int .u8) w0 A0 l0.length l0) (hc0 : l0.length ≤ c0) (h : spec_l01New.f k l0 = some (r1, r2, r3)) :
  Calls Try.prog 65 #[.slice A0 l0.length c0] w fun e w' => ∃ g_ : Nat, e = .returned (.pointer (some ⟨g_, 0, none⟩)) ∧ IsS88 w0 w' g_ r1 r2 r3 ∧ Below w0.heap.size w0 w' ∧ Below w.heap.size w w' := by
 have hu88 := Try.underlying88
 have HR0 := Aside0.mk hr0
 have HC0 := Aside0.mk hc0
 clear hr0 hc0
 have HBW := Aside0.mk (Below.refl w.heap.size w)
 have HW0 := Aside0.mk hB.size
 have HB := Aside0.mk hB
 clear hB
 have H : (spec_l01New.l0 k l0 (wrap64 (76801 + (l0.length : Int))) 0) = some (r1, r2, r3) := h
 clear h
 have H' := Aside0.mk H
 clear H
 go_enter Try.func65, Try.ntmps65
 go_wp2
 go_loopg [3, 4] k (fun kq v3 v4 w' => ∃ (x3_1 : Int) (x4_1 : Int), v3 = .int .i64 x3_1 ∧ v4 = .int .i64 x4_1 ∧ Aside0 (spec_l01New.l0 kq l0 x3_1 x4_1 = some (r1, r2, r3)) ∧ Aside0 (kq ≤ k) ∧ Aside0 (Below w0.heap.size w0 w') ∧ Aside0 (Below w.heap.size w w'))
 case atStart => exact ⟨(wrap64 (76801 + (l0.length : Int))), (0), rS, rS, H', ⟨Nat.le_refl _⟩, ⟨bZ HB⟩, ⟨by repeat (first | (with_reducible first | exact HBW.out | apply below_alloc | apply pw_below_drewN | apply below_drew1) | exact HBW.out)⟩⟩
 case round =>
  clear H' HBW
  obtain ⟨x3_1, x4_1, rfl, rfl, HA, HK1, HB, HBW⟩ := hrel
  cases gk with
  | zero => exact absurd HA.out (by simp [spec_l01New.l0])
  | succ k1 =>
   have H := HA.out
   clear HA
   simp only [spec_l01New.l0] at H
   by_cases c2 : x4_1 < (l0.length : Int)
   ·rw [if_pos c2] at H
    have c2b0 := decide_eq_true c2
    clear c2
    by_cases c3 : x4_1 < 4000
    ·rw [if_pos c3] at H
     have c3b0 := decide_eq_true c3
     clear c3
     by_cases c4 : 0 ≤ x4_1
     ·rw [if_pos c4] at H
      have c4b0 := decide_eq_true c4
      clear c4
      have H' := Aside0.mk H
      clear H
      have p278 : 0 ≤ (x4_1 : Int) := of_decide_eq_true (by first | (with_reducible assumption) | assumption)
      have q278 : x4_1 < (l0.length : Int) := of_decide_eq_true (by first | (with_reducible assumption) | assumption)
      obtain ⟨ad278, e278, hx278_0⟩ := Kd.at_int HR0.out x4_1 p278 q278
      cases e278
      replace hx278_0 := pw_cell_below HB.out hx278_0
      replace p278 := eq_true p278
      replace q278 := eq_true q278
      go_wp2
      go_roundg k1
      case measure => have := HK1.out; omega
      case rel => exact ⟨(Go.bits .and .i64 (wrap64 ((wrap64 ((wrap64 (x3_1 * 131)) + (wrap64 (rd l0 x4_1)))) + 7)) 1073741823), (wrap64 (x4_1 + 1)), rS, rS, H', ⟨by have := HK1.out; omega⟩, ⟨bZ HB⟩, ⟨by repeat (first | (with_reducible first | exact HBW.out | apply below_alloc | apply pw_below_drewN | apply below_drew1) | exact HBW.out)⟩⟩
     ·rw [if_neg c4] at H
      exact absurd H (by simp)
    ·rw [if_neg c3] at H
     have c3b0 := decide_eq_false c3
     clear c3
     simp only [Option.some.injEq, Prod.mk.injEq] at H
     obtain ⟨rfl, rfl, rfl⟩ := H
     go_wp2_with (first | ((with_reducible refine gate_dst (N := 31) rfl ?_); refine bE 31 #[.slice A0 l0.length c0, .int .i64 0, .int .i64 x3_1] 88 ?_; intro gb279 hg w5 hbox hb; replace HB := bS HB hb; have BK279 := Aside0.mk (hbox); have GW279 := Aside0.mk ((by rw [hg]; exact (below_size (by repeat (first | (with_reducible first | exact HBW.out | apply below_alloc | apply pw_below_drewN | apply below_drew1) | exact HBW.out))) : w.heap.size ≤ gb279)); have GE279 := Aside0.mk ((Nat.le_trans HW0.out (by rw [hg]; exact (below_size (by repeat (first | (with_reducible first | exact HBW.out | apply below_alloc | apply pw_below_drewN | apply below_drew1) | exact HBW.out))) : w.heap.size ≤ gb279) : w0.heap.size ≤ gb279)); replace HBW := Aside0.mk (below_step HBW.out hb); clear hb hbox hg))
     go_ret
     exact ⟨_, rfl, (show IsS88 w0 _ gb279 l0 0 x3_1 from ⟨_, _, by (with_reducible repeat (first | refine blk_drewN ?_ _ | refine blk_drew ?_ | refine blk_alloc ?_ _)); exact BK279.out, GE279.out, HR0.out⟩), bZ HB, by repeat (first | (with_reducible first | exact HBW.out | apply below_alloc | apply pw_below_drewN | apply below_drew1 | refine below_set ?_ GW279.out) | exact HBW.out)⟩
   ·rw [if_neg c2] at H
    have c2b0 := decide_eq_false c2
    clear c2
    simp only [Option.some.injEq, Prod.mk.injEq] at H
    obtain ⟨rfl, rfl, rfl⟩ := H
    go_wp2_with (first | ((with_reducible refine gate_dst (N := 31) rfl ?_); refine bE 31 #[.slice A0 l0.length c0, .int .i64 0, .int .i64 x3_1] 88 ?_; intro gb280 hg w6 hbox hb; replace HB := bS HB hb; have BK280 := Aside0.mk (hbox); have GW280 := Aside0.mk ((by rw [hg]; exact (below_size (by repeat (first | (with_reducible first | exact HBW.out | apply below_alloc | apply pw_below_drewN | apply below_drew1) | exact HBW.out))) : w.heap.size ≤ gb280)); have GE280 := Aside0.mk ((Nat.le_trans HW0.out (by rw [hg]; exact (below_size (by repeat (first | (with_reducible first | exact HBW.out | apply below_alloc | apply pw_below_drewN | apply below_drew1) | exact HBW.out))) : w.heap.size ≤ gb280) : w0.heap.size ≤ gb280)); replace HBW := Aside0.mk (below_step HBW.out hb); clear hb hbox hg))
    go_ret
    exact ⟨_, rfl, (show IsS88 w0 _ gb280 l0 0 x3_1 from ⟨_, _, by (with_reducible repeat (first | refine blk_drewN ?_ _ | refine blk_drew ?_ | refine blk_alloc ?_ _)); exact BK280.out, GE280.out, HR0.out⟩), bZ HB, by repeat (first | (with_reducible first | exact HBW.out | apply below_alloc | apply pw_below_drewN | apply below_drew1 | refine below_set ?_ GW280.out) | exact HBW.out)⟩
def spec_DrawSystem.f (k : Nat) (l0 : List Int) : Option (Int × Int × (List (S40)) × List Int) := (spec_l01New.f k l0).bind fun bt282 => ((spec_l13System.f k bt282.1 bt282.2.1 bt282.2.2).bind fun bt286 => (some (bt286.1, bt286.2.1, bt286.2.2.1, bt286.2.2.2.1)))
set_option maxHeartbeats 8000000 in
set_option maxRecDepth 100000 in
theorem spec_DrawSystem.calls (k : Nat) (A0 : Option Addr) (c0 : Nat) (l0 : List Int) (r1 : Int) (r2 : Int) (r3 : List (S40)) (r4 : List Int) (w : World) (hr0 : Kd.C (Kd.int .u8) w A0 l0.length l0) (hc0 : l0.length ≤ c0) (h : spec_DrawSystem.f k l0 = some (r1, r2, r3, r4)) :
  Calls Try.prog 24 #[.slice A0 l0.length c0] w fun e w' => ∃ v2_ v3_ : Value, e = .returned (.tuple #[.agg #[.int .i64 r1, .int .i64 r2, v2_], v3_]) ∧ Kd.N k40 40 w' w.heap.size (fun k_ => (w.heap.size ≤ k_) ∧ some k_ ≠ (v3_ : Value).ownBlock) v2_ r3 ∧ Kd.R (Kd.int .i64) 3 w' w.heap.size (fun k_ => (w.heap.size ≤ k_)) v3_ r4 ∧ Below w.heap.size w w' := by
 have hu32 := Try.underlying32
 have HR0 := Aside0.mk hr0
 have HC0 := Aside0.mk hc0
 clear hr0 hc0
 have HB := Aside0.mk (Below.refl w.heap.size w)
 have H : ((spec_l01New.f k l0).bind fun bt282 => ((spec_l13System.f k bt282.1 bt282.2.1 bt282.2.2).bind fun bt286 => (some (bt286.1, bt286.2.1, bt286.2.2.1, bt286.2.2.2.1)))) = some (r1, r2, r3, r4) := h
 clear h
 replace H := Option.bind_eq_some_iff.mp H
 obtain ⟨⟨t282, t283, t284⟩, A20, H⟩ := H
 have A2 := Aside0.mk A20
 clear A20
 replace H := Option.bind_eq_some_iff.mp H
 obtain ⟨⟨t286, t287, t288, t291, t294, t295⟩, A30, H⟩ := H
 have A3 := Aside0.mk A30
 clear A30
 simp only [Option.some.injEq, Prod.mk.injEq] at H
 obtain ⟨rfl, rfl, rfl, rfl⟩ := H
 go_enter Try.func24, Try.ntmps24
 go_wp2_with (first | (refine gB 2 #[.int .i64 0, .int .i64 0, .slice none 0 0] 32 ?_; intro gb281 hg w4 BK281 hb; have GW281 := bG HB hg; have GE281 := bG HB hg; replace HB := bS HB hb; clear hb hg) | (refine gC (some 5) Try.func65 #[.slice A0 l0.length c0] ?_; (with_reducible refine (spec_l01New.calls k _ _ l0 t282 t283 t284 w _ ?side1 ?side2 ?side3 A2.out).mono ?_); (case side1 => repeat (first | (with_reducible first | exact HB.out | apply below_alloc | apply pw_below_drewN | apply below_drew1 | refine below_set ?_ GE281.out) | exact HB.out)); (case side2 => exact HR0.out); (case side3 => exact HC0.out); rintro e w5 ⟨g285, rfl, hi, hb, hb2⟩; refine ⟨_, rfl, ?_⟩; replace HB := Aside0.mk (hb); have HI285 := Aside0.mk (hi); have NB285_281 := Aside0.mk (IsS88.ne_blk hi (blk_below (bP BK281) hb2) (by decide)); have NB281_285 := Aside0.mk (Ne.symm (IsS88.ne_blk hi (blk_below (bP BK281) hb2) (by decide))); replace BK281 := Aside0.mk (blk_below (bP BK281) hb2); (try clear hb)) | (refine gC (some 6) Try.func64 #[.pointer (some ⟨g285, 0, none⟩)] ?_; (with_reducible refine (spec_l13System.calls k g285 t282 t283 t284 t286 t287 t288 t291 t294 t295 w _ ?side1 ?side2 A3.out).mono ?_); (case side1 => exact iZ88 HI285); (case side2 => exact jZ88 HB HI285); rintro e w6 ⟨v289, v292, rfl, ho0, ho1, hi, hb, hk⟩; refine ⟨_, rfl, ?_⟩; have HO290 := Aside0.mk (Kd.N_lower (Kd.N_mono (ok' := fun k_ => (w.heap.size ≤ k_) ∧ some k_ ≠ (v292 : Value).ownBlock ∧ k_ ≠ gb281 ∧ k_ ≠ g285) ho0 (fun k_ hk_ => ⟨(Nat.le_trans (below_size (jZ88 HB HI285)) hk_.1), hk_.2, (Kd.freshB (bP BK281) k_ hk_.1), (IsS88.fresh (iZ88 HI285) k_ hk_.1)⟩)) (below_size (jZ88 HB HI285))); replace BK281 := Aside0.mk (KeepBut.blk hk (g' := gb281) (o := .cells #[.int .i64 0, .int .i64 0, .slice none 0 0] 32 (0, 0)) (bP BK281) NB281_285.out (by simp)); have HO293 := Aside0.mk (Kd.R_lower (Kd.R_newM (M := fun k_ => (w.heap.size ≤ k_)) (Kd.R_mono (ok' := fun k_ => True) ho1 (fun _ hk_ => trivial)) (below_size (jZ88 HB HI285)) (fun k_ h_ => h_)) (below_size (jZ88 HB HI285))); replace HB := Aside0.mk (hb); replace HI285 := Aside0.mk (hi); (try clear hb); (try clear ho0); (try clear ho1); obtain ⟨hnb7, hnc7⟩ := nB NB281_285; obtain ⟨hcz8_0, hcz8_1, hcz8_2, hfz8_0, hfz8_1, hfz8_2⟩ := bK3 (w := w6) BK281; obtain ⟨Ao9, co9, eo9⟩ := Kd.N_slice HO290.out; subst eo9))
 refine bodyPost_ret (results_ct rfl _ _ gb281 32 #[.int .i64 t286, .int .i64 t287, .slice Ao9 t288.length co9] (0, 0) _ rfl (bU BK281) Try.underlying32 rfl (by kernel_rfl)) rfl ?_
 exact ⟨_, _, by first | rfl | (simp [errW_none, errW_some] <;> rfl) | (simp [*, errW_none, errW_some] <;> rfl), by (with_reducible repeat (first | apply Kd.N_alloc | apply Kd.N_drewN | apply Kd.N_drew)); exact Kd.N_mono (Kd.N_far (p := ⟨gb281, 2, none⟩) (Kd.N_far (p := ⟨gb281, 1, none⟩) (Kd.N_far (p := ⟨gb281, 0, none⟩) (Kd.N_mono HO290.out (fun k_ hk => (⟨hk, hk.2.2.1⟩ : _ ∧ k_ ≠ gb281))) (fun _ hk => hk.2) (.int .i64 t286)) (fun _ hk => hk.2) (.int .i64 t287)) (fun _ hk => hk.2) (.slice Ao9 t288.length co9)) (fun _ hk => ⟨hk.1.1, hk.1.2.1⟩), by (with_reducible repeat (first | apply Kd.R_alloc | apply Kd.R_drewN | apply Kd.R_drew)); exact Kd.R_mono (Kd.R_far (p := ⟨gb281, 2, none⟩) (Kd.R_far (p := ⟨gb281, 1, none⟩) (Kd.R_far (p := ⟨gb281, 0, none⟩) (Kd.R_types HO293.out BK281.out (by decide)) (fun _ hk => hk.2) (.int .i64 t286)) (fun _ hk => hk.2) (.int .i64 t287)) (fun _ hk => hk.2) (.slice Ao9 t288.length co9)) (fun _ hk => hk.1.1), jZ88 HB HI285⟩
def spec_DrawPlaces.l0 : Nat → List Int → Int → List Int → Int → Int → Option (List Int)
 | 0, _, _, _, _, _ => none
 | k + 1, x4, x5, x300000, x300001, x300002 => if x5 < 12 then ((spec_l01Below.f x300000 x300001 x300002 10000).bind fun bt306 => (if x4.length < 17592186044416 then (spec_DrawPlaces.l0 k (x4 ++ [bt306.1]) (wrap64 (x5 + 1)) x300000 bt306.2.1 bt306.2.2) else (none))) else (some x4)
def spec_DrawPlaces.f (k : Nat) (l0 : List Int) : Option (List Int) := (spec_l01New.f k l0).bind fun bt296 => ((spec_l01Byte.f bt296.1 bt296.2.1 bt296.2.2).bind fun bt300 => (spec_DrawPlaces.l0 k (([] : List Int)) 0 bt296.1 bt300.2.1 bt300.2.2))
set_option maxHeartbeats 8000000 in
set_option maxRecDepth 100000 in
theorem spec_DrawPlaces.calls (k : Nat) (A0 : Option Addr) (c0 : Nat) (l0 : List Int) (r : List Int) (w : World) (hr0 : Kd.C (Kd.int .u8) w A0 l0.length l0) (hc0 : l0.length ≤ c0) (h : spec_DrawPlaces.f k l0 = some r) :
  Calls Try.prog 25 #[.slice A0 l0.length c0] w fun e w' => ∃ v0_ : Value, e = .returned (v0_) ∧ Kd.R (Kd.int .i64) 3 w' w.heap.size (fun _ => True) v0_ r ∧ Below w.heap.size w w' := by
 have HR0 := Aside0.mk hr0
 have HC0 := Aside0.mk hc0
 clear hr0 hc0
 have HB := Aside0.mk (Below.refl w.heap.size w)
 have H : ((spec_l01New.f k l0).bind fun bt296 => ((spec_l01Byte.f bt296.1 bt296.2.1 bt296.2.2).bind fun bt300 => (spec_DrawPlaces.l0 k (([] : List Int)) 0 bt296.1 bt300.2.1 bt300.2.2))) = some r := h
 clear h
 replace H := Option.bind_eq_some_iff.mp H
 obtain ⟨⟨t296, t297, t298⟩, A20, H⟩ := H
 have A2 := Aside0.mk A20
 clear A20
 replace H := Option.bind_eq_some_iff.mp H
 obtain ⟨⟨t300, t301, t302⟩, A30, H⟩ := H
 have A3 := Aside0.mk A30
 clear A30
 obtain ⟨y303, hy303⟩ : ∃ y_ : List Int, y_ = (([] : List Int)) := ⟨_, rfl⟩
 replace H : (spec_DrawPlaces.l0 k y303 0 t296 t301 t302) = some r := by first | (rw [hy303]; with_reducible exact H) | (have H2_ := (Option.bind_some _ _).symm.trans H; rw [hy303]; with_reducible exact H2_) | (have H2_ := (Option.bind_some _ _).symm.trans H; with_reducible exact H2_) | with_reducible exact H | (rw [hy303]; exact H) | exact H
 have Ny303 := Aside0.mk hy303
 clear hy303
 have H' := Aside0.mk H
 clear H
 go_enter Try.func25, Try.ntmps25
 go_wp2_with (first | (refine gC (some 7) Try.func65 #[.slice A0 l0.length c0] ?_; (with_reducible refine (spec_l01New.calls k _ _ l0 t296 t297 t298 w _ ?side1 ?side2 ?side3 A2.out).mono ?_); (case side1 => repeat (first | (with_reducible first | exact HB.out | apply below_alloc | apply pw_below_drewN | apply below_drew1) | exact HB.out)); (case side2 => exact HR0.out); (case side3 => exact HC0.out); rintro e w4 ⟨g299, rfl, hi, hb, hb2⟩; refine ⟨_, rfl, ?_⟩; replace HB := Aside0.mk (hb); have HI299 := Aside0.mk (hi); (try clear hb)) | (refine gC (some 9) Try.func66 #[.pointer (some ⟨g299, 0, none⟩)] ?_; (with_reducible refine (spec_l01Byte.calls g299 t296 t297 t298 t300 t301 t302 w _ ?side1 ?side2 A3.out).mono ?_); (case side1 => exact iZ88 HI299); (case side2 => exact jZ88 HB HI299); rintro e w5 ⟨rfl, hi, hb, hk⟩; refine ⟨_, rfl, ?_⟩; replace HB := Aside0.mk (hb); replace HI299 := Aside0.mk (hi); (try clear hb)) | ((with_reducible refine gate_dst (N := 10) rfl ?_); refine Kd.R_lit (Kd.int .i64) _ 3 ?hg (N := 10) ?hd (xs := ([] : List Int)) (inner := []) (ok := fun _ => True) (okp := fun _ => True) ?hr ?hp (fun _ hk => hk) trivial (Below.refl _ _) (Nat.le_refl _) (by simp) ?_; (case hd => rfl); (case hg => rfl); (case hr => first | (go_simp; done) | (go_simp; rfl)); (case hp => exact (Reps.none _ _)); intro v304 w6 ho7 hb hg_ hnew_; clear hg_ hnew_; (first | rw [← Ny303.out] at ho7 | (simp only [Int.reduceToNat] at ho7; rw [← Ny303.out] at ho7)); have HO305 := Aside0.mk (Kd.R_lower ho7 (below_size (jZ88 HB HI299))); replace HB := Aside0.mk (below_step (jZ88 HB HI299) hb); replace HI299 := Aside0.mk (IsS88.below (iZ88 HI299) hb); clear hb ho7))
 go_loopg [4, 5] k (fun kq v4 v5 w' => ∃ (x4_1 : List Int) (x5_1 : Int) (x300001_1 : Int) (x300002_1 : Int), v5 = .int .i64 x5_1 ∧ Aside0 (spec_DrawPlaces.l0 kq x4_1 x5_1 t296 x300001_1 x300002_1 = some r) ∧ Aside0 (kq ≤ k) ∧ Aside0 (Kd.R (Kd.int .i64) 3 w' w.heap.size (fun _ => True) v4 x4_1) ∧ Aside0 (IsS88 w w' g299 t296 x300001_1 x300002_1) ∧ Aside0 (Below w.heap.size w w'))
 case atStart => exact ⟨(y303), (0), (t301), (t302), rS, H', ⟨Nat.le_refl _⟩, ⟨rP HO305⟩, ⟨iZ88 HI299⟩, ⟨jZ88 HB HI299⟩⟩
 case round =>
  clear H'
  try clear c2
  try clear p2
  try clear c6
  obtain ⟨x4_1, x5_1, x300001_1, x300002_1, rfl, HA, HK1, HO_4, HI299, HB⟩ := hrel
  cases gk with
  | zero => exact absurd HA.out (by simp [spec_DrawPlaces.l0])
  | succ k1 =>
   have H := HA.out
   clear HA
   simp only [spec_DrawPlaces.l0] at H
   by_cases c8 : x5_1 < 12
   ·rw [if_pos c8] at H
    have c8b0 := decide_eq_true c8
    clear c8
    replace H := Option.bind_eq_some_iff.mp H
    obtain ⟨⟨t306, t307, t308⟩, A90, H⟩ := H
    have A9 := Aside0.mk A90
    clear A90
    by_cases c10 : x4_1.length < 17592186044416
    ·rw [if_pos c10] at H
     have LMc10 := Aside0.mk c10
     clear c10
     obtain ⟨y309, hy309⟩ : ∃ y_ : List Int, y_ = (x4_1 ++ [t306]) := ⟨_, rfl⟩
     replace H : (spec_DrawPlaces.l0 k1 y309 (wrap64 (x5_1 + 1)) t296 t307 t308) = some r := by first | (rw [hy309]; with_reducible exact H) | (have H2_ := (Option.bind_some _ _).symm.trans H; rw [hy309]; with_reducible exact H2_) | (have H2_ := (Option.bind_some _ _).symm.trans H; with_reducible exact H2_) | with_reducible exact H | (rw [hy309]; exact H) | exact H
     have Ny309 := Aside0.mk hy309
     clear hy309
     have H' := Aside0.mk H
     clear H
     go_wp2_with (first | (refine gC (some 17) Try.func67 #[.pointer (some ⟨g299, 0, none⟩), .int .i64 10000] ?_; (with_reducible refine (spec_l01Below.calls g299 t296 x300001_1 x300002_1 10000 t306 t307 t308 w _ ?side1 ?side2 A9.out).mono ?_); (case side1 => exact iZ88 HI299); (case side2 => exact jZ88 HB HI299); rintro e w11 ⟨rfl, hi, hb, hk⟩; refine ⟨_, rfl, ?_⟩; replace HO_4 := Aside0.mk (Kd.R_mono (Kd.R_keep (IsS88.apart (show IsS88 w _ g299 t296 x300001_1 x300002_1 from iZ88 HI299) (rP HO_4) (by decide)) hk (fun _ h => h.2)) (fun _ h => h.1)); replace HB := Aside0.mk (hb); replace HI299 := Aside0.mk (hi); (try clear hb)) | ((with_reducible refine gate_builtin (b := .append) (xs := #[.tmp 15, .tmp 18]) rfl ?_); at_builtin; refine Kd.R_append (Kd.int .i64) (w0 := w) w.heap.size rfl (.tmp 15) (.tmp 18) 22 3 (.int .i64 0) 8 rfl Try.underlying22 info3 rfl (by decide) (by omega) u4 x4_1 t306 [.int .i64 t306] (fun _ => True) (fun _ => False) rfl rfl ?aP (fun _ hk => hk.elim) ?aF ?aO ?aB ?aS ?aL ?_; (case aP => exact rfl); (case aB => exact (jZ88 HB HI299)); (case aF => exact (fun _ _ => trivial)); (case aO => exact (rP HO_4)); (case aS => exact (below_size (jZ88 HB HI299))); (case aL => have := LMc10.out; omega); intro v310 w12 ho hb hg hat; rw [← Ny309.out] at ho; replace HI299 := Aside0.mk (IsS88.grown (iZ88 HI299) hg (IsS88.own_ne HI299.out HO_4.out (by decide))); replace HB := Aside0.mk (hb); have HO311 := Aside0.mk (ho); clear HO_4; clear ho hb hg hat))
     go_roundg k1
     case measure => have := HK1.out; omega
     case rel => exact ⟨(y309), (wrap64 (x5_1 + 1)), (t307), (t308), rS, H', ⟨by have := HK1.out; omega⟩, ⟨rP HO311⟩, ⟨iZ88 HI299⟩, ⟨jZ88 HB HI299⟩⟩
    ·rw [if_neg c10] at H
     exact absurd H (by simp)
   ·rw [if_neg c8] at H
    have c8b0 := decide_eq_false c8
    clear c8
    obtain rfl := Option.some.inj H
    go_wp2
    go_ret
    exact ⟨_, by first | rfl | (simp [errW_none, errW_some] <;> rfl) | (simp [*, errW_none, errW_some] <;> rfl), by (with_reducible repeat (first | apply Kd.R_alloc | apply Kd.R_drewN | apply Kd.R_drew)); exact HO_4.out, jZ88 HB HI299⟩
def impl_remainder.f (a0 : Int) (a1 : Int) : Option (Int) := if a1 = 0 then (none) else (if (Int.tmod a0 a1) < 0 then (some (wrap64 ((Int.tmod a0 a1) + a1))) else (some (Int.tmod a0 a1)))
set_option maxHeartbeats 8000000 in
set_option maxRecDepth 100000 in
theorem impl_remainder.calls (a0 : Int) (a1 : Int) (r : Int) (w : World) (h : impl_remainder.f a0 a1 = some r) :
  Calls Try.prog 87 #[.int .i64 a0, .int .i64 a1] w fun e w' => e = .returned (.int .i64 r) ∧ Drawn0 w w' := by
 have H : (if a1 = 0 then (none) else (if (Int.tmod a0 a1) < 0 then (some (wrap64 ((Int.tmod a0 a1) + a1))) else (some (Int.tmod a0 a1)))) = some r := h
 clear h
 by_cases c3 : a1 = 0
 ·rw [if_pos c3] at H
  exact absurd H (by simp)
 ·rw [if_neg c3] at H
  have c3b0 : (a1 == 0) = false := beq_eq_false_iff_ne.mpr c3
  have c3b1 : (a1 != 0) = true := bne_iff_ne.mpr c3
  by_cases c4 : (Int.tmod a0 a1) < 0
  ·rw [if_pos c4] at H
   have c4b0 := decide_eq_true c4
   clear c4
   obtain rfl := Option.some.inj H
   go_enter Try.func87, Try.ntmps87
   go_wp2
   go_ret
   exact ⟨rS, rD⟩
  ·rw [if_neg c4] at H
   have c4b0 := decide_eq_false c4
   clear c4
   obtain rfl := Option.some.inj H
   go_enter Try.func87, Try.ntmps87
   go_wp2
   go_ret
   exact ⟨rS, rD⟩
def impl_ScOf.f (a0 : Int) : Option (Int) := (impl_remainder.f a0 1009).bind fun t312 => (some t312)
set_option maxHeartbeats 8000000 in
set_option maxRecDepth 100000 in
theorem impl_ScOf.calls (a0 : Int) (r : Int) (w : World) (h : impl_ScOf.f a0 = some r) :
  Calls Try.prog 63 #[.int .i64 a0] w fun e w' => e = .returned (.int .i64 r) ∧ Drawn0 w w' := by
 have H : ((impl_remainder.f a0 1009).bind fun t312 => (some t312)) = some r := h
 clear h
 replace H := Option.bind_eq_some_iff.mp H
 obtain ⟨t312, A20, H⟩ := H
 have A2 := Aside0.mk A20
 clear A20
 obtain rfl := Option.some.inj H
 go_enter Try.func63, Try.ntmps63
 go_wp2_with (first | (refine gC (some 4) Try.func87 #[.int .i64 a0, .int .i64 1009] ?_; (with_reducible refine (impl_remainder.calls a0 1009 t312 _ A2.out).mono ?_); rintro e w' ⟨rfl, ⟨nd, rfl⟩⟩; refine ⟨_, rfl, ?_⟩))
 go_ret
 exact ⟨rS, rD⟩
end Go.Proofs.Ytcnejiflpioaiaa.Pf
end
section
namespace Go.Proofs.Ytcnejiflpioaiaa.Pf
open Go.RowKit Go.Proofs.YtcnejiflpioaiaaW.PrintWords Go.Proofs.YtcnejiflpioaiaaW.PrintLast Go.Proofs.YtcnejiflpioaiaaW.PrintMore
attribute [local go_sem] max2_int min2_int max_two min_two max_three min_three max_four min_four   -- for this text's walks alone
set_option linter.unusedVariables false
set_option linter.unusedSimpArgs false
mutual
def impl_PolyTrim.l0 : Nat → List Int → List Int → Int → Int → Option (List Int)
 | 0, _, _, _, _ => none
 | k + 1, x3, x6, x7, x8 => if x8 < x7 then (if 0 ≤ x8 then (if x8 < (x6.length : Int) then ((impl_ScOf.f (rd x6 x8)).bind fun t314 => (if x3.length < 17592186044416 then (impl_PolyTrim.l0 k (x3 ++ [t314]) x6 x7 (wrap64 (x8 + 1))) else (none))) else (none)) else (none)) else (impl_PolyTrim.l1 k x3)
def impl_PolyTrim.l1 : Nat → List Int → Option (List Int)
 | 0, _ => none
 | k + 1, x3 => if (x3.length : Int) > 0 then (if 0 ≤ (wrap64 ((x3.length : Int) - 1)) then (if (wrap64 ((x3.length : Int) - 1)) < (x3.length : Int) then (if (rd x3 (wrap64 ((x3.length : Int) - 1))) = 0 then (if (wrap64 ((x3.length : Int) - 1)) ≤ (x3.length : Int) then (impl_PolyTrim.l1 k (x3.take ((wrap64 ((x3.length : Int) - 1)) : Int).toNat)) else (none)) else (some x3)) else (none)) else (none)) else (some x3)
end
def impl_PolyTrim.f (k : Nat) (l0 : List Int) : Option (List Int) := impl_PolyTrim.l0 k ([] : List Int) l0 (l0.length : Int) 0
set_option maxHeartbeats 8000000 in
set_option maxRecDepth 100000 in
theorem impl_PolyTrim.calls (k : Nat) (A0 : Option Addr) (c0 : Nat) (l0 : List Int) (r : List Int) (w : World) (hr0 : Kd.C (Kd.int .i64) w A0 l0.length l0) (hc0 : l0.length ≤ c0) (h : impl_PolyTrim.f k l0 = some r) :
  Calls Try.prog 20 #[.slice A0 l0.length c0] w fun e w' => ∃ v0_ : Value, e = .returned (v0_) ∧ Kd.R (Kd.int .i64) 3 w' w.heap.size (fun _ => True) v0_ r ∧ Below w.heap.size w w' := by
 have HR0 := Aside0.mk hr0
 have HC0 := Aside0.mk hc0
 clear hr0 hc0
 have HB := Aside0.mk (Below.refl w.heap.size w)
 have H : (impl_PolyTrim.l0 k ([] : List Int) l0 (l0.length : Int) 0) = some r := h
 clear h
 have H' := Aside0.mk H
 clear H
 go_enter Try.func20, Try.ntmps20
 go_wp2
 go_loopg [3, 8] k (fun kq v3 v8 w' => ∃ (x3_1 : List Int) (x8_1 : Int), v8 = .int .i64 x8_1 ∧ Aside0 (impl_PolyTrim.l0 kq x3_1 l0 (l0.length : Int) x8_1 = some r) ∧ Aside0 (kq ≤ k) ∧ Aside0 (Kd.R (Kd.int .i64) 3 w' w.heap.size (fun _ => True) v3 x3_1) ∧ Aside0 (Below w.heap.size w w'))
 case atStart => exact ⟨(([] : List Int)), (0), rS, H', ⟨Nat.le_refl _⟩, ⟨by first | exact Kd.R_nil _ _ _ _ _ | exact Kd.N_nil _ _ _ _ _ | exact Kd.V_nil _ _ _ _ _ | exact Kd.Q_nil _ _ _ _ _ | exact Kd.S_nil _ _ _ _ _⟩, ⟨bZ HB⟩⟩
 case round =>
  clear H'
  obtain ⟨x3_1, x8_1, rfl, HA, HK1, HO_3, HB⟩ := hrel
  cases gk with
  | zero => exact absurd HA.out (by simp [impl_PolyTrim.l0])
  | succ k1 =>
   have H := HA.out
   clear HA
   simp only [impl_PolyTrim.l0] at H
   by_cases c2 : x8_1 < (l0.length : Int)
   ·rw [if_pos c2] at H
    have c2b0 := decide_eq_true c2
    clear c2
    by_cases c3 : 0 ≤ x8_1
    ·rw [if_pos c3] at H
     have c3b0 := decide_eq_true c3
     clear c3
     by_cases c4 : x8_1 < (l0.length : Int)
     ·rw [if_pos c4] at H
      have c4b0 := decide_eq_true c4
      clear c4
      replace H := Option.bind_eq_some_iff.mp H
      obtain ⟨t314, A50, H⟩ := H
      have A5 := Aside0.mk A50
      clear A50
      by_cases c6 : x3_1.length < 17592186044416
      ·rw [if_pos c6] at H
       have LMc6 := Aside0.mk c6
       clear c6
       obtain ⟨y315, hy315⟩ : ∃ y_ : List Int, y_ = (x3_1 ++ [t314]) := ⟨_, rfl⟩
       replace H : (impl_PolyTrim.l0 k1 y315 l0 (l0.length : Int) (wrap64 (x8_1 + 1))) = some r := by first | (rw [hy315]; with_reducible exact H) | (have H2_ := (Option.bind_some _ _).symm.trans H; rw [hy315]; with_reducible exact H2_) | (have H2_ := (Option.bind_some _ _).symm.trans H; with_reducible exact H2_) | with_reducible exact H | (rw [hy315]; exact H) | exact H
       have Ny315 := Aside0.mk hy315
       clear hy315
       have H' := Aside0.mk H
       clear H
       have p313 : 0 ≤ (x8_1 : Int) := of_decide_eq_true (by first | (with_reducible assumption) | assumption)
       have q313 : x8_1 < (l0.length : Int) := of_decide_eq_true (by first | (with_reducible assumption) | assumption)
       obtain ⟨ad313, e313, hx313_0⟩ := Kd.at_int HR0.out x8_1 p313 q313
       cases e313
       replace hx313_0 := (hC HB hx313_0 :)
       replace p313 := eq_true p313
       replace q313 := eq_true q313
       go_wp2_with (first | (refine gC (some 14) Try.func63 #[.int .i64 (rd l0 x8_1)] ?_; (with_reducible refine (impl_ScOf.calls (rd l0 x8_1) t314 _ A5.out).mono ?_); rintro e w' ⟨rfl, ⟨nd, rfl⟩⟩; refine ⟨_, rfl, ?_⟩) | ((with_reducible refine gate_builtin (b := .append) (xs := #[.tmp 12, .tmp 15]) rfl ?_); (try (refine gate_guard (by rfl) ?_; dsimp only)); at_builtin; refine Kd.R_append (Kd.int .i64) (w0 := w) w.heap.size rfl (.tmp 12) (.tmp 15) 22 3 (.int .i64 0) 8 rfl Try.underlying22 info3 rfl (by decide) (by omega) u3 x3_1 t314 [.int .i64 t314] (fun _ => True) (fun _ => False) rfl rfl ?aP (fun _ hk => hk.elim) ?aF ?aO ?aB ?aS ?aL ?_; (case aP => exact rfl); (case aB => exact (bZ HB)); (case aF => exact (fun _ _ => trivial)); (case aO => exact (rP HO_3)); (case aS => exact (below_size (bZ HB))); (case aL => have := LMc6.out; omega); intro v316 w7 ho hb hg hat; rw [← Ny315.out] at ho; replace HB := Aside0.mk (hb); have HO317 := Aside0.mk (ho); clear HO_3; clear ho hb hg hat))
       go_roundg k1
       case measure => have := HK1.out; omega
       case rel => exact ⟨(y315), (wrap64 (x8_1 + 1)), rS, H', ⟨by have := HK1.out; omega⟩, ⟨rP HO317⟩, ⟨bZ HB⟩⟩
      ·rw [if_neg c6] at H
       exact absurd H (by simp)
     ·rw [if_neg c4] at H
      exact absurd H (by simp)
    ·rw [if_neg c3] at H
     exact absurd H (by simp)
   ·rw [if_neg c2] at H
    have c2b0 := decide_eq_false c2
    clear c2
    have H' := Aside0.mk H
    clear H
    go_wp2
    go_loopg [3] k1 (fun kq v3 w' => ∃ (x3_2 : List Int), Aside0 (impl_PolyTrim.l1 kq x3_2 = some r) ∧ Aside0 (kq ≤ k1) ∧ Aside0 (Kd.R (Kd.int .i64) 3 w' w.heap.size (fun _ => True) v3 x3_2) ∧ Aside0 (Below w.heap.size w w'))
    case atStart => exact ⟨(x3_1), H', ⟨Nat.le_refl _⟩, ⟨rP HO_3⟩, ⟨bZ HB⟩⟩
    case round =>
     clear H'
     try clear c2
     try clear c2b0
     try clear p2
     try clear c3
     try clear c3b0
     try clear p3
     try clear q3
     try clear hx3
     try clear c4
     try clear c4b0
     try clear c6
     try clear p6
     try clear hx313_0
     try clear p313
     try clear q313
     obtain ⟨x3_2, HA, HK2, HO_3, HB⟩ := hrel
     cases gk with
     | zero => exact absurd HA.out (by simp [impl_PolyTrim.l1])
     | succ k2 =>
      have H := HA.out
      clear HA
      simp only [impl_PolyTrim.l1] at H
      by_cases c8 : (x3_2.length : Int) > 0
      ·rw [if_pos c8] at H
       have c8b0 := decide_eq_true c8
       have c8b1 : decide (0 < x3_2.length) = true := decide_eq_true (by omega)
       clear c8
       obtain ⟨ji9, hji9⟩ : ∃ j_ : Int, (wrap64 ((x3_2.length : Int) - 1)) = j_ := ⟨_, rfl⟩
       replace H : (if 0 ≤ (ji9) then (if (ji9) < (x3_2.length : Int) then (if (rd x3_2 (ji9)) = 0 then (if (ji9) ≤ (x3_2.length : Int) then (impl_PolyTrim.l1 k2 (x3_2.take ((ji9) : Int).toNat)) else (none)) else (some x3_2)) else (none)) else (none)) = some r := by first | (rw [hji9] at H; exact H) | (simp only [hji9] at H ⊢; exact H)
       have hji9w : (IntKind.i64.wrap ((x3_2.length : Int) - 1)) = ji9 := (i64_w _).trans hji9
       by_cases c10 : 0 ≤ (ji9)
       ·rw [if_pos c10] at H
        have c10b0 := decide_eq_true c10
        clear c10
        by_cases c11 : (ji9) < (x3_2.length : Int)
        ·rw [if_pos c11] at H
         have c11b0 := decide_eq_true c11
         clear c11
         by_cases c12 : (rd x3_2 (ji9)) = 0
         ·rw [if_pos c12] at H
          have c12b0 : ((rd x3_2 (ji9)) == 0) = true := beq_iff_eq.mpr c12
          have c12b1 : ((rd x3_2 (ji9)) != 0) = false := bne_eq_false_iff_eq.mpr c12
          clear c12
          by_cases c13 : (ji9) ≤ (x3_2.length : Int)
          ·rw [if_pos c13] at H
           have c13b0 := eq_true c13
           have c13b1 := decide_eq_true c13
           clear c13
           obtain ⟨y319, hy319⟩ : ∃ y_ : List Int, y_ = (x3_2.take ((ji9) : Int).toNat) := ⟨_, rfl⟩
           replace H : (impl_PolyTrim.l1 k2 y319) = some r := by first | (rw [hy319]; with_reducible exact H) | (have H2_ := (Option.bind_some _ _).symm.trans H; rw [hy319]; with_reducible exact H2_) | (have H2_ := (Option.bind_some _ _).symm.trans H; with_reducible exact H2_) | with_reducible exact H | (rw [hy319]; exact H) | exact H
           have Ny319 := Aside0.mk hy319
           clear hy319
           have H' := Aside0.mk H
           clear H
           obtain ⟨Ao14, co14, eo14⟩ := Kd.R_slice HO_3.out
           subst eo14
           have p318 : 0 ≤ ((ji9) : Int) := of_decide_eq_true (by first | (with_reducible assumption) | assumption)
           have q318 : (ji9) < (x3_2.length : Int) := of_decide_eq_true (by first | (with_reducible assumption) | assumption)
           obtain ⟨ad318, e318, hx318_0⟩ := Kd.at_int (Kd.R_reads' HO_3.out).2.2 (ji9) p318 q318
           cases e318
           replace p318 := eq_true p318
           replace q318 := eq_true q318
           have q15 : ((ji9) : Int) ≤ ((x3_2.length : Int) : Int) := of_decide_eq_true (by first | (with_reducible assumption) | assumption)
           obtain ⟨i015, hi015, _, hsz15, _⟩ := info_parts info3
           have hcut15 := cut_to (P := Try.prog) 22 3 .i64 Try.underlying22 hi015 (some ad318) x3_2.length co14 (ji9) (of_decide_eq_true (by first | (with_reducible assumption) | assumption)) q15 (Kd.R_reads' HO_3.out).2.1
           have hr15 := Kd.R_take (m := ((ji9) : Int).toNat) HO_3.out (by omega)
           have hy15 : y319.length = ((ji9) : Int).toNat := (by rw [Ny319.out, List.length_take]; omega)
           rw [← Ny319.out] at hr15
           rw [← hy15] at hr15 hcut15
           clear hy15 hi015 hsz15 HO_3
           have HO321 := Aside0.mk hr15
           clear hr15
           replace q15 := eq_true q15
           go_wp2
           go_roundg k2
           case measure => have := HK1.out; have := HK2.out; omega
           case rel => exact ⟨(y319), H', ⟨by have := HK1.out; have := HK2.out; omega⟩, ⟨rP HO321⟩, ⟨bZ HB⟩⟩
          ·rw [if_neg c13] at H
           exact absurd H (by simp)
         ·rw [if_neg c12] at H
          have c12b0 : ((rd x3_2 (ji9)) == 0) = false := beq_eq_false_iff_ne.mpr c12
          have c12b1 : ((rd x3_2 (ji9)) != 0) = true := bne_iff_ne.mpr c12
          obtain rfl := Option.some.inj H
          obtain ⟨Ao16, co16, eo16⟩ := Kd.R_slice HO_3.out
          subst eo16
          have p318 : 0 ≤ ((ji9) : Int) := of_decide_eq_true (by first | (with_reducible assumption) | assumption)
          have q318 : (ji9) < (x3_2.length : Int) := of_decide_eq_true (by first | (with_reducible assumption) | assumption)
          obtain ⟨ad318, e318, hx318_0⟩ := Kd.at_int (Kd.R_reads' HO_3.out).2.2 (ji9) p318 q318
          cases e318
          replace p318 := eq_true p318
          replace q318 := eq_true q318
          go_wp2
          go_ret
          exact ⟨_, by first | rfl | (simp [errW_none, errW_some] <;> rfl) | (simp only [← hji9]; first | rfl | (simp [errW_none, errW_some] <;> rfl)) | (simp [*, errW_none, errW_some] <;> rfl), by (with_reducible repeat (first | apply Kd.R_alloc | apply Kd.R_drewN | apply Kd.R_drew)); exact HO_3.out, bZ HB⟩
        ·rw [if_neg c11] at H
         exact absurd H (by simp)
       ·rw [if_neg c10] at H
        exact absurd H (by simp)
      ·rw [if_neg c8] at H
       have c8b0 := decide_eq_false c8
       have c8b1 : decide (0 < x3_2.length) = false := decide_eq_false (by omega)
       clear c8
       obtain rfl := Option.some.inj H
       obtain ⟨Ao17, co17, eo17⟩ := Kd.R_slice HO_3.out
       subst eo17
       go_wp2
       go_ret
       exact ⟨_, by first | rfl | (simp [errW_none, errW_some] <;> rfl) | (simp [*, errW_none, errW_some] <;> rfl), by (with_reducible repeat (first | apply Kd.R_alloc | apply Kd.R_drewN | apply Kd.R_drew)); exact HO_3.out, bZ HB⟩
end Go.Proofs.Ytcnejiflpioaiaa.Pf
end
section
namespace Go.Proofs.Ytcnejiflpioaiaa.Pf
open Go.RowKit Go.Proofs.YtcnejiflpioaiaaW.PrintWords Go.Proofs.YtcnejiflpioaiaaW.PrintLast Go.Proofs.YtcnejiflpioaiaaW.PrintMore
attribute [local go_sem] max2_int min2_int max_two min_two max_three min_three max_four min_four   -- for this text's walks alone
set_option linter.unusedVariables false
set_option linter.unusedSimpArgs false
def impl_ScAdd.f (a0 : Int) (a1 : Int) : Option (Int) := (impl_ScOf.f a0).bind fun t322 => ((impl_ScOf.f a1).bind fun t323 => ((impl_ScOf.f (wrap64 (t322 + t323))).bind fun t324 => (some t324)))
set_option maxHeartbeats 8000000 in
set_option maxRecDepth 100000 in
theorem impl_ScAdd.calls (a0 : Int) (a1 : Int) (r : Int) (w : World) (h : impl_ScAdd.f a0 a1 = some r) :
  Calls Try.prog 50 #[.int .i64 a0, .int .i64 a1] w fun e w' => e = .returned (.int .i64 r) ∧ Drawn0 w w' := by
 have H : ((impl_ScOf.f a0).bind fun t322 => ((impl_ScOf.f a1).bind fun t323 => ((impl_ScOf.f (wrap64 (t322 + t323))).bind fun t324 => (some t324)))) = some r := h
 clear h
 replace H := Option.bind_eq_some_iff.mp H
 obtain ⟨t322, A30, H⟩ := H
 have A3 := Aside0.mk A30
 clear A30
 replace H := Option.bind_eq_some_iff.mp H
 obtain ⟨t323, A40, H⟩ := H
 have A4 := Aside0.mk A40
 clear A40
 replace H := Option.bind_eq_some_iff.mp H
 obtain ⟨t324, A50, H⟩ := H
 have A5 := Aside0.mk A50
 clear A50
 obtain rfl := Option.some.inj H
 go_enter Try.func50, Try.ntmps50
 go_wp2_with (first | (refine gC (some 6) Try.func63 #[.int .i64 a0] ?_; (with_reducible refine (impl_ScOf.calls a0 t322 _ A3.out).mono ?_); rintro e w' ⟨rfl, ⟨nd, rfl⟩⟩; refine ⟨_, rfl, ?_⟩) | (refine gC (some 8) Try.func63 #[.int .i64 a1] ?_; (with_reducible refine (impl_ScOf.calls a1 t323 _ A4.out).mono ?_); rintro e w' ⟨rfl, ⟨nd, rfl⟩⟩; refine ⟨_, rfl, ?_⟩) | (refine gC (some 10) Try.func63 #[.int .i64 (wrap64 (t322 + t323))] ?_; (with_reducible refine (impl_ScOf.calls (wrap64 (t322 + t323)) t324 _ A5.out).mono ?_); rintro e w' ⟨rfl, ⟨nd, rfl⟩⟩; refine ⟨_, rfl, ?_⟩))
 go_ret
 exact ⟨rS, rD⟩
end Go.Proofs.Ytcnejiflpioaiaa.Pf
end
section
namespace Go.Proofs.Ytcnejiflpioaiaa.Pf
open Go.RowKit Go.Proofs.YtcnejiflpioaiaaW.PrintWords Go.Proofs.YtcnejiflpioaiaaW.PrintLast Go.Proofs.YtcnejiflpioaiaaW.PrintMore
attribute [local go_sem] max2_int min2_int max_two min_two max_three min_three max_four min_four   -- for this text's walks alone
set_option linter.unusedVariables false
set_option linter.unusedSimpArgs false
mutual
def impl_PolyAdd.l0 : Nat → List Int → List Int → List Int → Int → Int → Option (List Int)
 | 0, _, _, _, _, _ => none
 | k + 1, x1, x5, x16, x17, x18 => if x18 < x17 then (if 0 ≤ x18 then (if x18 < (x16.length : Int) then ((impl_ScOf.f (rd x16 x18)).bind fun t329 => (if x18 < (x5.length : Int) then (impl_PolyAdd.l0 k x1 (x5.set (x18 : Int).toNat t329) x16 x17 (wrap64 (x18 + 1))) else (none))) else (none)) else (none)) else (impl_PolyAdd.l1 k x5 x1 (x1.length : Int) 0)
def impl_PolyAdd.l1 : Nat → List Int → List Int → Int → Int → Option (List Int)
 | 0, _, _, _, _ => none
 | k + 1, x5, x29, x30, x31 => if x31 < x30 then (if 0 ≤ x31 then (if x31 < (x29.length : Int) then (if x31 < (x5.length : Int) then ((impl_ScAdd.f (rd x5 x31) (rd x29 x31)).bind fun t333 => (impl_PolyAdd.l1 k (x5.set (x31 : Int).toNat t333) x29 x30 (wrap64 (x31 + 1)))) else (none)) else (none)) else (none)) else ((impl_PolyTrim.f k x5).bind fun t335 => (some t335))
end
def impl_PolyAdd.f (k : Nat) (l0 : List Int) (l1 : List Int) : Option (List Int) := if 0 ≤ (mx (l0.length : Int) (l1.length : Int)) then (if (mx (l0.length : Int) (l1.length : Int) : Int).toNat ≤ 35184372088832 then (impl_PolyAdd.l0 k l1 (List.replicate (mx (l0.length : Int) (l1.length : Int) : Int).toNat 0) l0 (l0.length : Int) 0) else (none)) else (none)
set_option maxHeartbeats 8000000 in
set_option maxRecDepth 100000 in
theorem impl_PolyAdd.calls (k : Nat) (A0 : Option Addr) (c0 : Nat) (l0 : List Int) (A1 : Option Addr) (c1 : Nat) (l1 : List Int) (r : List Int) (w : World) (hr0 : Kd.C (Kd.int .i64) w A0 l0.length l0) (hc0 : l0.length ≤ c0) (hr1 : Kd.C (Kd.int .i64) w A1 l1.length l1) (hc1 : l1.length ≤ c1) (h : impl_PolyAdd.f k l0 l1 = some r) :
  Calls Try.prog 32 #[.slice A0 l0.length c0, .slice A1 l1.length c1] w fun e w' => ∃ v0_ : Value, e = .returned (v0_) ∧ Kd.R (Kd.int .i64) 3 w' w.heap.size (fun _ => True) v0_ r ∧ Below w.heap.size w w' := by
 have HR0 := Aside0.mk hr0
 have HC0 := Aside0.mk hc0
 clear hr0 hc0
 have HR1 := Aside0.mk hr1
 have HC1 := Aside0.mk hc1
 clear hr1 hc1
 have HB := Aside0.mk (Below.refl w.heap.size w)
 have H : (if 0 ≤ (mx (l0.length : Int) (l1.length : Int)) then (if (mx (l0.length : Int) (l1.length : Int) : Int).toNat ≤ 35184372088832 then (impl_PolyAdd.l0 k l1 (List.replicate (mx (l0.length : Int) (l1.length : Int) : Int).toNat 0) l0 (l0.length : Int) 0) else (none)) else (none)) = some r := h
 clear h
 obtain ⟨ji3, hji3⟩ : ∃ j_ : Int, (mx (l0.length : Int) (l1.length : Int)) = j_ := ⟨_, rfl⟩
 replace H : (if 0 ≤ (ji3) then (if (ji3 : Int).toNat ≤ 35184372088832 then (impl_PolyAdd.l0 k l1 (List.replicate (ji3 : Int).toNat 0) l0 (l0.length : Int) 0) else (none)) else (none)) = some r := by first | (rw [hji3] at H; exact H) | (simp only [hji3] at H ⊢; exact H)
 (try (have hji3l : 0 ≤ ji3 := by (rw [← hji3]; unfold mx; (repeat' split) <;> omega)))
 (try (have hji3m : 0 ≤ ji3 := by omega))
 have hji3_ : (if (l0.length : Int) < (l1.length : Int) then (l1.length : Int) else (l0.length : Int)) = ji3 := hji3
 try (have hji3n_ := hji3_; simp only [Int.ofNat_lt] at hji3n_)
 by_cases c4 : 0 ≤ (ji3)
 ·rw [if_pos c4] at H
  have c4b0 := eq_true c4
  have c4b1 := decide_eq_true c4
  clear c4
  by_cases c5 : (ji3 : Int).toNat ≤ 35184372088832
  ·rw [if_pos c5] at H
   have c5b0 := eq_true c5
   have c5b1 := decide_eq_true c5
   clear c5
   obtain ⟨y325, hy325⟩ : ∃ y_ : List Int, y_ = (List.replicate (ji3 : Int).toNat 0) := ⟨_, rfl⟩
   replace H : (impl_PolyAdd.l0 k l1 y325 l0 (l0.length : Int) 0) = some r := by first | (rw [hy325]; with_reducible exact H) | (have H2_ := (Option.bind_some _ _).symm.trans H; rw [hy325]; with_reducible exact H2_) | (have H2_ := (Option.bind_some _ _).symm.trans H; with_reducible exact H2_) | with_reducible exact H | (rw [hy325]; exact H) | exact H
   have Ny325 := Aside0.mk hy325
   clear hy325
   have H' := Aside0.mk H
   clear H
   go_enter Try.func32, Try.ntmps32
   go_wp2_with (first | ((with_reducible refine gate_dst (N := 15) rfl ?_); refine Kd.R_make (Kd.int .i64) _ 3 rfl (N := 15) rfl 22 _ _ rfl ji3 rfl rfl Try.underlying22 (.int .i64 0) 8 info3 rfl (by decide) (by omega) 0 (ok := fun _ => True) (okp := fun _ => True) rfl (fun _ hk => hk) trivial (of_decide_eq_true (by first | (with_reducible assumption) | assumption)) (Nat.le_trans (Nat.mul_le_mul_right _ (of_decide_eq_true (by first | (with_reducible assumption) | assumption) : ji3.toNat ≤ 35184372088832)) (by omega)) (Below.refl _ _) (Nat.le_refl _) ?_; intro v326 w6 ho7 hb hg_ hnew_; clear hg_ hnew_; (first | rw [← Ny325.out] at ho7 | (simp only [Int.reduceToNat] at ho7; rw [← Ny325.out] at ho7)); have HO327 := Aside0.mk (Kd.R_lower ho7 (below_size (bZ HB))); replace HB := bS HB hb; clear hb ho7))
   go_loopg [18] k (fun kq v18 w' => ∃ (x5_1 : List Int) (x18_1 : Int), v18 = .int .i64 x18_1 ∧ Aside0 (impl_PolyAdd.l0 kq l1 x5_1 l0 (l0.length : Int) x18_1 = some r) ∧ Aside0 (kq ≤ k) ∧ Aside0 (Kd.R (Kd.int .i64) 3 w' w.heap.size (fun _ => True) v326 x5_1) ∧ Aside0 (Below w.heap.size w w'))
   case atStart => exact ⟨(y325), (0), rS, H', ⟨Nat.le_refl _⟩, ⟨rP HO327⟩, ⟨bZ HB⟩⟩
   case round =>
    clear H'
    try clear c1
    try clear p2
    try clear c3
    try clear c4
    try clear c4b0
    try clear c4b1
    try clear c5
    try clear c5b0
    try clear c5b1
    obtain ⟨x5_1, x18_1, rfl, HA, HK1, HO_5, HB⟩ := hrel
    cases gk with
    | zero => exact absurd HA.out (by simp [impl_PolyAdd.l0])
    | succ k1 =>
     have H := HA.out
     clear HA
     simp only [impl_PolyAdd.l0] at H
     by_cases c8 : x18_1 < (l0.length : Int)
     ·rw [if_pos c8] at H
      have c8b0 := decide_eq_true c8
      clear c8
      by_cases c9 : 0 ≤ x18_1
      ·rw [if_pos c9] at H
       have c9b0 := decide_eq_true c9
       clear c9
       by_cases c10 : x18_1 < (l0.length : Int)
       ·rw [if_pos c10] at H
        have c10b0 := decide_eq_true c10
        clear c10
        replace H := Option.bind_eq_some_iff.mp H
        obtain ⟨t329, A110, H⟩ := H
        have A11 := Aside0.mk A110
        clear A110
        by_cases c12 : x18_1 < (x5_1.length : Int)
        ·rw [if_pos c12] at H
         have c12b0 := decide_eq_true c12
         clear c12
         obtain ⟨y330, hy330⟩ : ∃ y_ : List Int, y_ = (x5_1.set (x18_1 : Int).toNat t329) := ⟨_, rfl⟩
         replace H : (impl_PolyAdd.l0 k1 l1 y330 l0 (l0.length : Int) (wrap64 (x18_1 + 1))) = some r := by first | (rw [hy330]; with_reducible exact H) | (have H2_ := (Option.bind_some _ _).symm.trans H; rw [hy330]; with_reducible exact H2_) | (have H2_ := (Option.bind_some _ _).symm.trans H; with_reducible exact H2_) | with_reducible exact H | (rw [hy330]; exact H) | exact H
         have Ny330 := Aside0.mk hy330
         clear hy330
         have H' := Aside0.mk H
         clear H
         have p328 : 0 ≤ (x18_1 : Int) := of_decide_eq_true (by first | (with_reducible assumption) | assumption)
         have q328 : x18_1 < (l0.length : Int) := of_decide_eq_true (by first | (with_reducible assumption) | assumption)
         obtain ⟨ad328, e328, hx328_0⟩ := Kd.at_int HR0.out x18_1 p328 q328
         cases e328
         replace hx328_0 := (hC HB hx328_0 :)
         replace p328 := eq_true p328
         replace q328 := eq_true q328
         go_wp2_with (first | (refine gC (some 26) Try.func63 #[.int .i64 (rd l0 x18_1)] ?_; (with_reducible refine (impl_ScOf.calls (rd l0 x18_1) t329 _ A11.out).mono ?_); rintro e w' ⟨rfl, ⟨nd, rfl⟩⟩; refine ⟨_, rfl, ?_⟩; (try simp only [World.drewN_drewN]); (try (rw [drewN_self wr]; generalize hq_ : World.drewN wr _ = wr; replace HO_5 : Aside0 (Kd.R (Kd.int .i64) 3 wr w.heap.size (fun _ => True) v326 x5_1) := ⟨by rw [← hq_]; exact (rP HO_5)⟩; replace HB : Aside0 (Below w.heap.size w wr) := ⟨by rw [← hq_]; exact (bZ HB)⟩; clear hq_)); have p13 : 0 ≤ (x18_1 : Int) := of_decide_eq_true (by first | (with_reducible assumption) | assumption); have q13 : (x18_1 : Int) < ((x5_1.length : Int) : Int) := of_decide_eq_true (by first | (with_reducible assumption) | assumption); obtain ⟨go13, co13, eo13, gb13, gl13, cl13, HG13⟩ := Kd.R_form HO_5.out (by omega); (first | cases eo13 | (injection eo13 with ea_ en_ ec_; (first | subst ea_ | (injection ea_ with ea_; subst ea_)); subst ec_; clear en_)); have GB13 := Aside0.mk gb13; have GG13 := Aside0.mk HG13; clear gb13 gl13 HG13; obtain ⟨hx13_0, hf13_0⟩ := Kd.R_celln 0 HO_5.out (x18_1 : Int) p13 q13; replace p13 := eq_true p13; replace q13 := eq_true q13; obtain ⟨hy14_, hz14_⟩ := Kd.R_celln 0 HO_5.out (x18_1 : Int) (of_decide_eq_true (by first | (with_reducible assumption) | assumption)) (of_decide_eq_true (by first | (with_reducible assumption) | assumption)); have HP14 := Kd.R_putg HO_5.out (x18_1 : Int) t329) | ((with_reducible refine gate_store (t := 3) (p := 27) rfl ?_); refine store_event (t := 3) (p := 27) (v := ?vo_w15) (w1 := (wr.setCell ⟨go13, (x18_1 : Int).toNat, none⟩ (.int .i64 t329))) ?hg ?ho ?hn ?hr ?_; (case ho => rfl); (case hg => rfl); (case hn => rfl); (case hr => first | (go_simp; done) | (go_simp; rfl)); intro w15 hw; have hg : wr.grownBy w15 (some go13) := (by rw [hw]; exact HP14.2); have hp_ : Kd.R (Kd.int .i64) 3 w15 w.heap.size (fun _ => True) (.slice (some ⟨go13, 0, none⟩) x5_1.length co13) y330 := (by rw [hw, Ny330.out]; exact HP14.1); clear HP14; replace HO_5 := Aside0.mk (hp_); replace HB := Aside0.mk ((by rw [hw]; exact below_set (HB.out) GB13.out : Below w.heap.size w w15)); clear hg hw hp_))
         go_roundg k1
         case measure => have := HK1.out; omega
         case rel => exact ⟨(y330), (wrap64 (x18_1 + 1)), rS, H', ⟨by have := HK1.out; omega⟩, ⟨rP HO_5⟩, ⟨bZ HB⟩⟩
        ·rw [if_neg c12] at H
         exact absurd H (by simp)
       ·rw [if_neg c10] at H
        exact absurd H (by simp)
      ·rw [if_neg c9] at H
       exact absurd H (by simp)
     ·rw [if_neg c8] at H
      have c8b0 := decide_eq_false c8
      clear c8
      have H' := Aside0.mk H
      clear H
      go_wp2
      go_loopg [31] k1 (fun kq v31 w' => ∃ (x5_2 : List Int) (x31_2 : Int), v31 = .int .i64 x31_2 ∧ Aside0 (impl_PolyAdd.l1 kq x5_2 l1 (l1.length : Int) x31_2 = some r) ∧ Aside0 (kq ≤ k1) ∧ Aside0 (Kd.R (Kd.int .i64) 3 w' w.heap.size (fun _ => True) v326 x5_2) ∧ Aside0 (Below w.heap.size w w'))
      case atStart => exact ⟨(x5_1), (0), rS, H', ⟨Nat.le_refl _⟩, ⟨rP HO_5⟩, ⟨bZ HB⟩⟩
      case round =>
       clear H'
       try clear c1
       try clear p1
       try clear q1
       try clear hx1
       try clear p2
       try clear c3
       try clear p3
       try clear q3
       try clear hx3
       try clear c4
       try clear c4b0
       try clear c4b1
       try clear c5
       try clear c5b0
       try clear c5b1
       try clear c6
       try clear p6
       try clear c8
       try clear c8b0
       try clear c9
       try clear c9b0
       try clear c10
       try clear c10b0
       try clear c12
       try clear c12b0
       try clear p13
       try clear q13
       try clear hx13
       try clear hf13
       try clear hx13_0
       try clear hx328_0
       try clear p13
       try clear p2
       try clear p328
       try clear q13
       try clear q328
       obtain ⟨x5_2, x31_2, rfl, HA, HK2, HO_5, HB⟩ := hrel
       cases gk with
       | zero => exact absurd HA.out (by simp [impl_PolyAdd.l1])
       | succ k2 =>
        have H := HA.out
        clear HA
        simp only [impl_PolyAdd.l1] at H
        by_cases c16 : x31_2 < (l1.length : Int)
        ·rw [if_pos c16] at H
         have c16b0 := decide_eq_true c16
         clear c16
         by_cases c17 : 0 ≤ x31_2
         ·rw [if_pos c17] at H
          have c17b0 := decide_eq_true c17
          clear c17
          by_cases c18 : x31_2 < (l1.length : Int)
          ·rw [if_pos c18] at H
           have c18b0 := decide_eq_true c18
           clear c18
           by_cases c19 : x31_2 < (x5_2.length : Int)
           ·rw [if_pos c19] at H
            have c19b0 := decide_eq_true c19
            clear c19
            replace H := Option.bind_eq_some_iff.mp H
            obtain ⟨t333, A200, H⟩ := H
            have A20 := Aside0.mk A200
            clear A200
            obtain ⟨y334, hy334⟩ : ∃ y_ : List Int, y_ = (x5_2.set (x31_2 : Int).toNat t333) := ⟨_, rfl⟩
            replace H : (impl_PolyAdd.l1 k2 y334 l1 (l1.length : Int) (wrap64 (x31_2 + 1))) = some r := by first | (rw [hy334]; with_reducible exact H) | (have H2_ := (Option.bind_some _ _).symm.trans H; rw [hy334]; with_reducible exact H2_) | (have H2_ := (Option.bind_some _ _).symm.trans H; with_reducible exact H2_) | with_reducible exact H | (rw [hy334]; exact H) | exact H
            have Ny334 := Aside0.mk hy334
            clear hy334
            have H' := Aside0.mk H
            clear H
            have p331 : 0 ≤ (x31_2 : Int) := of_decide_eq_true (by first | (with_reducible assumption) | assumption)
            have q331 : x31_2 < (l1.length : Int) := of_decide_eq_true (by first | (with_reducible assumption) | assumption)
            obtain ⟨ad331, e331, hx331_0⟩ := Kd.at_int HR1.out x31_2 p331 q331
            cases e331
            replace hx331_0 := (hC HB hx331_0 :)
            replace p331 := eq_true p331
            replace q331 := eq_true q331
            obtain ⟨Ao22, co22, eo22⟩ := Kd.R_slice HO_5.out
            subst eo22
            have p332 : 0 ≤ (x31_2 : Int) := of_decide_eq_true (by first | (with_reducible assumption) | assumption)
            have q332 : x31_2 < (x5_2.length : Int) := of_decide_eq_true (by first | (with_reducible assumption) | assumption)
            obtain ⟨ad332, e332, hx332_0⟩ := Kd.at_int (Kd.R_reads' HO_5.out).2.2 x31_2 p332 q332
            cases e332
            replace p332 := eq_true p332
            replace q332 := eq_true q332
            go_wp2_with (first | (refine gC (some 43) Try.func50 #[.int .i64 (rd x5_2 x31_2), .int .i64 (rd l1 x31_2)] ?_; (with_reducible refine (impl_ScAdd.calls (rd x5_2 x31_2) (rd l1 x31_2) t333 _ A20.out).mono ?_); rintro e w' ⟨rfl, ⟨nd, rfl⟩⟩; refine ⟨_, rfl, ?_⟩; (try simp only [World.drewN_drewN]); (try (rw [drewN_self wr]; generalize hq_ : World.drewN wr _ = wr; replace HO_5 : Aside0 (Kd.R (Kd.int .i64) 3 wr w.heap.size (fun _ => True) (.slice (some ad332) x5_2.length co22) x5_2) := ⟨by rw [← hq_]; exact (rP HO_5)⟩; replace HB : Aside0 (Below w.heap.size w wr) := ⟨by rw [← hq_]; exact (bZ HB)⟩; clear hq_)); have p21 : 0 ≤ (x31_2 : Int) := of_decide_eq_true (by first | (with_reducible assumption) | assumption); have q21 : (x31_2 : Int) < ((x5_2.length : Int) : Int) := of_decide_eq_true (by first | (with_reducible assumption) | assumption); obtain ⟨go21, co21, eo21, gb21, gl21, cl21, HG21⟩ := Kd.R_form HO_5.out (by omega); (first | cases eo21 | (injection eo21 with ea_ en_ ec_; (first | subst ea_ | (injection ea_ with ea_; subst ea_)); subst ec_; clear en_)); have GB21 := Aside0.mk gb21; have GG21 := Aside0.mk HG21; clear gb21 gl21 HG21; (first | simp only [add_plain] at hx332_0 | skip); obtain ⟨hx21_0, hf21_0⟩ := Kd.R_celln 0 HO_5.out (x31_2 : Int) p21 q21; replace p21 := eq_true p21; replace q21 := eq_true q21; obtain ⟨hy23_, hz23_⟩ := Kd.R_celln 0 HO_5.out (x31_2 : Int) (of_decide_eq_true (by first | (with_reducible assumption) | assumption)) (of_decide_eq_true (by first | (with_reducible assumption) | assumption)); have HP23 := Kd.R_putg HO_5.out (x31_2 : Int) t333) | ((with_reducible refine gate_store (t := 3) (p := 44) rfl ?_); refine store_event (t := 3) (p := 44) (v := ?vo_w24) (w1 := (wr.setCell ⟨go21, (x31_2 : Int).toNat, none⟩ (.int .i64 t333))) ?hg ?ho ?hn ?hr ?_; (case ho => rfl); (case hg => rfl); (case hn => rfl); (case hr => first | (go_simp; done) | (go_simp; rfl)); intro w24 hw; have hg : wr.grownBy w24 (some go21) := (by rw [hw]; exact HP23.2); have hp_ : Kd.R (Kd.int .i64) 3 w24 w.heap.size (fun _ => True) (.slice (some ⟨go21, 0, none⟩) x5_2.length co22) y334 := (by rw [hw, Ny334.out]; exact HP23.1); clear HP23; replace HO_5 := Aside0.mk (hp_); replace HB := Aside0.mk ((by rw [hw]; exact below_set (HB.out) GB21.out : Below w.heap.size w w24)); clear hg hw hp_))
            go_roundg k2
            case measure => have := HK1.out; have := HK2.out; omega
            case rel => exact ⟨(y334), (wrap64 (x31_2 + 1)), rS, H', ⟨by have := HK1.out; have := HK2.out; omega⟩, ⟨rP HO_5⟩, ⟨bZ HB⟩⟩
           ·rw [if_neg c19] at H
            exact absurd H (by simp)
          ·rw [if_neg c18] at H
           exact absurd H (by simp)
         ·rw [if_neg c17] at H
          exact absurd H (by simp)
        ·rw [if_neg c16] at H
         have c16b0 := decide_eq_false c16
         clear c16
         replace H := Option.bind_eq_some_iff.mp H
         obtain ⟨t335, A250, H⟩ := H
         have A25 := Aside0.mk A250
         clear A250
         obtain rfl := Option.some.inj H
         obtain ⟨Ao26, co26, eo26⟩ := Kd.R_slice HO_5.out
         subst eo26
         go_wp2_with (first | (refine gC (some 47) Try.func20 #[.slice Ao26 x5_2.length co26] ?_; (with_reducible refine (impl_PolyTrim.calls k2 _ _ x5_2 t335 _ ?side1 ?side2 A25.out).mono ?_); (case side1 => exact cP ((Kd.R_reads' HO_5.out).2.2)); (case side2 => exact (Kd.R_reads' HO_5.out).2.1); rintro e w27 ⟨v336, rfl, ho0, hb⟩; refine ⟨_, rfl, ?_⟩; have HO337 := Aside0.mk (Kd.R_lower (Kd.R_new' ho0 (Kd.R_lt (rP HO_5))) (below_size (bZ HB))); replace HO_5 := Aside0.mk (Kd.R_elder' (rP HO_5) (Kd.R_base ho0) hb); replace HB := bS HB hb; (try clear hb); (try clear ho0)))
         go_ret
         exact ⟨_, by first | rfl | (simp [errW_none, errW_some] <;> rfl) | (simp only [← hji3]; first | rfl | (simp [errW_none, errW_some] <;> rfl)) | (simp [*, errW_none, errW_some] <;> rfl), by (with_reducible repeat (first | apply Kd.R_alloc | apply Kd.R_drewN | apply Kd.R_drew)); exact Kd.R_mono HO337.out (fun _ hk => trivial), bZ HB⟩
  ·rw [if_neg c5] at H
   exact absurd H (by simp)
 ·rw [if_neg c4] at H
  exact absurd H (by simp)
end Go.Proofs.Ytcnejiflpioaiaa.Pf
end
section
namespace Go.Proofs.Ytcnejiflpioaiaa.Pf
open Go.RowKit Go.Proofs.YtcnejiflpioaiaaW.PrintWords Go.Proofs.YtcnejiflpioaiaaW.PrintLast Go.Proofs.YtcnejiflpioaiaaW.PrintMore
attribute [local go_sem] max2_int min2_int max_two min_two max_three min_three max_four min_four   -- for this text's walks alone
set_option linter.unusedVariables false
set_option linter.unusedSimpArgs false
def impl_ScMul.f (a0 : Int) (a1 : Int) : Option (Int) := (impl_ScOf.f a0).bind fun t338 => ((impl_ScOf.f a1).bind fun t339 => ((impl_ScOf.f (wrap64 (t338 * t339))).bind fun t340 => (some t340)))
set_option maxHeartbeats 8000000 in
set_option maxRecDepth 100000 in
theorem impl_ScMul.calls (a0 : Int) (a1 : Int) (r : Int) (w : World) (h : impl_ScMul.f a0 a1 = some r) :
  Calls Try.prog 49 #[.int .i64 a0, .int .i64 a1] w fun e w' => e = .returned (.int .i64 r) ∧ Drawn0 w w' := by
 have H : ((impl_ScOf.f a0).bind fun t338 => ((impl_ScOf.f a1).bind fun t339 => ((impl_ScOf.f (wrap64 (t338 * t339))).bind fun t340 => (some t340)))) = some r := h
 clear h
 replace H := Option.bind_eq_some_iff.mp H
 obtain ⟨t338, A30, H⟩ := H
 have A3 := Aside0.mk A30
 clear A30
 replace H := Option.bind_eq_some_iff.mp H
 obtain ⟨t339, A40, H⟩ := H
 have A4 := Aside0.mk A40
 clear A40
 replace H := Option.bind_eq_some_iff.mp H
 obtain ⟨t340, A50, H⟩ := H
 have A5 := Aside0.mk A50
 clear A50
 obtain rfl := Option.some.inj H
 go_enter Try.func49, Try.ntmps49
 go_wp2_with (first | (refine gC (some 6) Try.func63 #[.int .i64 a0] ?_; (with_reducible refine (impl_ScOf.calls a0 t338 _ A3.out).mono ?_); rintro e w' ⟨rfl, ⟨nd, rfl⟩⟩; refine ⟨_, rfl, ?_⟩) | (refine gC (some 8) Try.func63 #[.int .i64 a1] ?_; (with_reducible refine (impl_ScOf.calls a1 t339 _ A4.out).mono ?_); rintro e w' ⟨rfl, ⟨nd, rfl⟩⟩; refine ⟨_, rfl, ?_⟩) | (refine gC (some 10) Try.func63 #[.int .i64 (wrap64 (t338 * t339))] ?_; (with_reducible refine (impl_ScOf.calls (wrap64 (t338 * t339)) t340 _ A5.out).mono ?_); rintro e w' ⟨rfl, ⟨nd, rfl⟩⟩; refine ⟨_, rfl, ?_⟩))
 go_ret
 exact ⟨rS, rD⟩
end Go.Proofs.Ytcnejiflpioaiaa.Pf
end
section
namespace Go.Proofs.Ytcnejiflpioaiaa.Pf
open Go.RowKit Go.Proofs.YtcnejiflpioaiaaW.PrintWords Go.Proofs.YtcnejiflpioaiaaW.PrintLast Go.Proofs.YtcnejiflpioaiaaW.PrintMore
attribute [local go_sem] max2_int min2_int max_two min_two max_three min_three max_four min_four   -- for this text's walks alone
set_option linter.unusedVariables false
set_option linter.unusedSimpArgs false
mutual
def impl_PolyMul.j0 : Nat → List Int → List Int → Bool → Option (List Int)
 | 0, _, _, _ => none
 | k + 1, x0, x1, x17 => if x17 = true then (some ([] : List Int)) else (if 0 ≤ (wrap64 ((x0.length : Int) + (x1.length : Int))) then (if (wrap64 ((x0.length : Int) + (x1.length : Int)) : Int).toNat ≤ 35184372088832 then (impl_PolyMul.l0 k x1 (List.replicate (wrap64 ((x0.length : Int) + (x1.length : Int)) : Int).toNat 0) x0 (x0.length : Int) 0) else (none)) else (none))
def impl_PolyMul.l0 : Nat → List Int → List Int → List Int → Int → Int → Option (List Int)
 | 0, _, _, _, _, _ => none
 | k + 1, x1, x5, x24, x25, x26 => if x26 < x25 then (if 0 ≤ x26 then (if x26 < (x24.length : Int) then (impl_PolyMul.l1 k x1 x5 x26 (rd x24 x26) x24 x25 x26 x1 (x1.length : Int) 0) else (none)) else (none)) else ((impl_PolyTrim.f k x5).bind fun t344 => (some t344))
def impl_PolyMul.l1 : Nat → List Int → List Int → Int → Int → List Int → Int → Int → List Int → Int → Int → Option (List Int)
 | 0, _, _, _, _, _, _, _, _, _, _ => none
 | k + 1, x1, x5, x6, x7, x24, x25, x26, x31, x32, x33 => if x33 < x32 then (if 0 ≤ x33 then (if x33 < (x31.length : Int) then (if 0 ≤ (wrap64 (x6 + x33)) then (if (wrap64 (x6 + x33)) < (x5.length : Int) then ((impl_ScMul.f x7 (rd x31 x33)).bind fun t350 => ((impl_ScAdd.f (rd x5 (wrap64 (x6 + x33))) t350).bind fun t351 => (impl_PolyMul.l1 k x1 (x5.set ((wrap64 (x6 + x33)) : Int).toNat t351) x6 x7 x24 x25 x26 x31 x32 (wrap64 (x33 + 1))))) else (none)) else (none)) else (none)) else (none)) else (impl_PolyMul.l0 k x1 x5 x24 x25 (wrap64 (x26 + 1)))
end
def impl_PolyMul.f (k : Nat) (l0 : List Int) (l1 : List Int) : Option (List Int) := if (l0.length : Int) > 64 then (impl_PolyMul.j0 k l0 l1 true) else (impl_PolyMul.j0 k l0 l1 (decide ((l1.length : Int) > 64)))
def impl_PolyMul.T10 : Bool × List (List Nat × List Nat) := (true, [([], []), ([], []), ([], []), ([1, 2], [1, 2]), ([], []), ([], []), ([], []), ([5, 6], [5, 6]), ([4, 7], [4, 7]), ([8], [8]), ([], []), ([], []), ([10, 11], [10, 11]), ([9, 12, 12], [9, 12]), ([0, 3, 0, 1, 2, 3, 4, 5, 6, 7, 8, 9, 10, 11, 12, 13], [0, 3]), ([14, 13, 13, 0, 1, 2, 3, 4, 5, 6, 7, 8, 9, 10, 11, 12, 13], [13, 14])])
def impl_PolyMul.B10 : List Nat := [0, 0, 0, 6, 0, 0, 0, 96, 240, 496, 0, 0, 3072, 8176, 16383, 32767]
theorem impl_PolyMul.tab10 : rtab .any (opsOf Try.f34 10) = impl_PolyMul.T10 := by kernel_rfl
theorem impl_PolyMul.bits10 : waitsOk impl_PolyMul.T10.2 impl_PolyMul.B10 = true := by kernel_rfl
set_option maxHeartbeats 8000000 in
set_option maxRecDepth 100000 in
theorem impl_PolyMul.calls (k : Nat) (A0 : Option Addr) (c0 : Nat) (l0 : List Int) (A1 : Option Addr) (c1 : Nat) (l1 : List Int) (r : List Int) (w : World) (hr0 : Kd.C (Kd.int .i64) w A0 l0.length l0) (hc0 : l0.length ≤ c0) (hr1 : Kd.C (Kd.int .i64) w A1 l1.length l1) (hc1 : l1.length ≤ c1) (h : impl_PolyMul.f k l0 l1 = some r) :
  Calls Try.prog 34 #[.slice A0 l0.length c0, .slice A1 l1.length c1] w fun e w' => ∃ v0_ : Value, e = .returned (v0_) ∧ Kd.R (Kd.int .i64) 3 w' w.heap.size (fun _ => True) v0_ r ∧ Below w.heap.size w w' := by
 have HR0 := Aside0.mk hr0
 have HC0 := Aside0.mk hc0
 clear hr0 hc0
 have HR1 := Aside0.mk hr1
 have HC1 := Aside0.mk hc1
 clear hr1 hc1
 have HB := Aside0.mk (Below.refl w.heap.size w)
 have H : (if (l0.length : Int) > 64 then (impl_PolyMul.j0 k l0 l1 true) else (impl_PolyMul.j0 k l0 l1 (decide ((l1.length : Int) > 64)))) = some r := h
 clear h
 have HC3 := Aside0.mk H
 clear H
 go_enter Try.func34, Try.ntmps34
 go_upto_region 1 with (fail)
 go_cut [17] (fun v17 wc => ∃ (kq : Nat) (x17_2 : Bool), v17 = .bool x17_2 ∧ Aside0 (impl_PolyMul.j0 kq l0 l1 x17_2 = some r) ∧ Aside0 (kq ≤ k) ∧ Aside0 (Below w.heap.size w wc))
 case first =>
  have H := HC3.out
  clear HC3
  by_cases c4 : (l0.length : Int) > 64
  ·rw [if_pos c4] at H
   have c4b0 := decide_eq_true c4
   have c4b1 : decide (64 < l0.length) = true := decide_eq_true (by omega)
   clear c4
   (first | rw [c4b0] | (simp only [i64_w, i32_w]; rw [c4b0]) | rw [c4b1] | skip)
   have H' := Aside0.mk H
   clear H
   go_wp2
   go_meet
   case rel => exact ⟨_, (true), rS, H', ⟨by first | omega | exact Nat.le_refl _⟩, ⟨bZ HB⟩⟩
  ·rw [if_neg c4] at H
   have c4b0 := decide_eq_false c4
   have c4b1 : decide (64 < l0.length) = false := decide_eq_false (by omega)
   clear c4
   (first | rw [c4b0] | (simp only [i64_w, i32_w]; rw [c4b0]) | rw [c4b1] | skip)
   have H' := Aside0.mk H
   clear H
   go_wp2
   go_meet
   case rel => exact ⟨_, (decide ((l1.length : Int) > 64)), rS, H', ⟨by first | omega | exact Nat.le_refl _⟩, ⟨bZ HB⟩⟩
 case rest =>
  clear HC3
  try clear c1
  try clear p2
  try clear c3
  try clear c4
  try clear c4b0
  try clear c4b1
  obtain ⟨kq, x17_2, rfl, HA, HJ2, HB⟩ := hcut
  cases kq with
  | zero => exact absurd HA.out (by simp [impl_PolyMul.j0])
  | succ kj2 =>
   have H := HA.out
   clear HA
   simp only [impl_PolyMul.j0] at H
   by_cases c5 : x17_2 = true
   ·subst c5
    rw [if_pos rfl] at H
    obtain rfl := Option.some.inj H
    go_wp2
    go_ret
    exact ⟨_, by first | rfl | (simp [errW_none, errW_some] <;> rfl) | (simp [*, errW_none, errW_some] <;> rfl), by first | exact Kd.R_nil _ _ _ _ _ | exact Kd.N_nil _ _ _ _ _ | exact Kd.V_nil _ _ _ _ _ | exact Kd.Q_nil _ _ _ _ _ | exact Kd.S_nil _ _ _ _ _, bZ HB⟩
   ·replace c5 := Bool.eq_false_iff.mpr c5
    subst c5
    rw [if_neg (show ¬ (false = true) by decide)] at H
    obtain ⟨ji6, hji6⟩ : ∃ j_ : Int, (wrap64 ((l0.length : Int) + (l1.length : Int))) = j_ := ⟨_, rfl⟩
    replace H : (if 0 ≤ (ji6) then (if (ji6 : Int).toNat ≤ 35184372088832 then (impl_PolyMul.l0 kj2 l1 (List.replicate (ji6 : Int).toNat 0) l0 (l0.length : Int) 0) else (none)) else (none)) = some r := by first | (rw [hji6] at H; exact H) | (simp only [hji6] at H ⊢; exact H)
    have hji6w : (IntKind.i64.wrap ((l0.length : Int) + (l1.length : Int))) = ji6 := (i64_w _).trans hji6
    by_cases c7 : 0 ≤ (ji6)
    ·rw [if_pos c7] at H
     have c7b0 := eq_true c7
     have c7b1 := decide_eq_true c7
     clear c7
     by_cases c8 : (ji6 : Int).toNat ≤ 35184372088832
     ·rw [if_pos c8] at H
      have c8b0 := eq_true c8
      have c8b1 := decide_eq_true c8
      clear c8
      obtain ⟨y341, hy341⟩ : ∃ y_ : List Int, y_ = (List.replicate (ji6 : Int).toNat 0) := ⟨_, rfl⟩
      replace H : (impl_PolyMul.l0 kj2 l1 y341 l0 (l0.length : Int) 0) = some r := by first | (rw [hy341]; with_reducible exact H) | (have H2_ := (Option.bind_some _ _).symm.trans H; rw [hy341]; with_reducible exact H2_) | (have H2_ := (Option.bind_some _ _).symm.trans H; with_reducible exact H2_) | with_reducible exact H | (rw [hy341]; exact H) | exact H
      have Ny341 := Aside0.mk hy341
      clear hy341
      have H' := Aside0.mk H
      clear H
      go_wp2_with (first | ((with_reducible refine gate_dst (N := 23) rfl ?_); (try (refine gate_guard (by rfl) ?_; dsimp only)); refine Kd.R_make (Kd.int .i64) _ 3 rfl (N := 23) rfl 22 _ _ rfl ji6 rfl rfl Try.underlying22 (.int .i64 0) 8 info3 rfl (by decide) (by omega) 0 (ok := fun _ => True) (okp := fun _ => True) rfl (fun _ hk => hk) trivial (of_decide_eq_true (by first | (with_reducible assumption) | assumption)) (Nat.le_trans (Nat.mul_le_mul_right _ (of_decide_eq_true (by first | (with_reducible assumption) | assumption) : ji6.toNat ≤ 35184372088832)) (by omega)) (Below.refl _ _) (Nat.le_refl _) ?_; intro v342 w9 ho10 hb hg_ hnew_; clear hg_ hnew_; (first | rw [← Ny341.out] at ho10 | (simp only [Int.reduceToNat] at ho10; rw [← Ny341.out] at ho10)); have HO343 := Aside0.mk (Kd.R_lower ho10 (below_size (bZ HB))); replace HB := bS HB hb; clear hb ho10))
      go_loopg [26] kj2 (fun kq v26 w' => ∃ (x5_2 : List Int) (x26_2 : Int), v26 = .int .i64 x26_2 ∧ Aside0 (impl_PolyMul.l0 kq l1 x5_2 l0 (l0.length : Int) x26_2 = some r) ∧ Aside0 (kq ≤ kj2) ∧ Aside0 (Kd.R (Kd.int .i64) 3 w' w.heap.size (fun _ => True) v342 x5_2) ∧ Aside0 (Below w.heap.size w w'))
      case atStart => exact ⟨(y341), (0), rS, H', ⟨Nat.le_refl _⟩, ⟨rP HO343⟩, ⟨bZ HB⟩⟩
      case round =>
       clear H'
       try clear c1
       try clear p2
       try clear c3
       try clear c4
       try clear c4b0
       try clear c4b1
       try clear c5
       try clear p6
       try clear c7
       try clear c7b0
       try clear c7b1
       try clear c8
       try clear c8b0
       try clear c8b1
       try clear p2
       obtain ⟨x5_2, x26_2, rfl, HA, HK2, HO_5, HB⟩ := hrel
       cases gk with
       | zero => exact absurd HA.out (by simp [impl_PolyMul.l0])
       | succ k2 =>
        have H := HA.out
        clear HA
        simp only [impl_PolyMul.l0] at H
        by_cases c11 : x26_2 < (l0.length : Int)
        ·rw [if_pos c11] at H
         have c11b0 := decide_eq_true c11
         clear c11
         by_cases c12 : 0 ≤ x26_2
         ·rw [if_pos c12] at H
          have c12b0 := decide_eq_true c12
          clear c12
          by_cases c13 : x26_2 < (l0.length : Int)
          ·rw [if_pos c13] at H
           have c13b0 := decide_eq_true c13
           clear c13
           have H' := Aside0.mk H
           clear H
           have p347 : 0 ≤ (x26_2 : Int) := of_decide_eq_true (by first | (with_reducible assumption) | assumption)
           have q347 : x26_2 < (l0.length : Int) := of_decide_eq_true (by first | (with_reducible assumption) | assumption)
           obtain ⟨ad347, e347, hx347_0⟩ := Kd.at_int HR0.out x26_2 p347 q347
           cases e347
           replace hx347_0 := (hC HB hx347_0 :)
           replace p347 := eq_true p347
           replace q347 := eq_true q347
           go_wp2
           go_loopg [33] k2 (fun kq v33 w' => ∃ (x5_3 : List Int) (x33_3 : Int), v33 = .int .i64 x33_3 ∧ Aside0 (impl_PolyMul.l1 kq l1 x5_3 x26_2 (rd l0 x26_2) l0 (l0.length : Int) x26_2 l1 (l1.length : Int) x33_3 = some r) ∧ Aside0 (kq ≤ k2) ∧ Aside0 (Kd.R (Kd.int .i64) 3 w' w.heap.size (fun _ => True) v342 x5_3) ∧ Aside0 (Below w.heap.size w w'))
           case atStart => exact ⟨(x5_2), (0), rS, H', ⟨Nat.le_refl _⟩, ⟨rP HO_5⟩, ⟨bZ HB⟩⟩
           case round =>
            clear H'
            try clear c1
            try clear p2
            try clear c3
            try clear p3
            try clear q3
            try clear hx3
            try clear c4
            try clear c4b0
            try clear c4b1
            try clear c5
            try clear p6
            try clear c7
            try clear c7b0
            try clear c7b1
            try clear c8
            try clear c8b0
            try clear c8b1
            try clear c11
            try clear c11b0
            try clear c12
            try clear c12b0
            try clear c13
            try clear c13b0
            try clear hx347_0
            try clear p2
            try clear p347
            try clear p6
            try clear q347
            obtain ⟨x5_3, x33_3, rfl, HA, HK3, HO_5, HB⟩ := hrel
            cases gk with
            | zero => exact absurd HA.out (by simp [impl_PolyMul.l1])
            | succ k3 =>
             have H := HA.out
             clear HA
             simp only [impl_PolyMul.l1] at H
             by_cases c14 : x33_3 < (l1.length : Int)
             ·rw [if_pos c14] at H
              have c14b0 := decide_eq_true c14
              clear c14
              by_cases c15 : 0 ≤ x33_3
              ·rw [if_pos c15] at H
               have c15b0 := decide_eq_true c15
               clear c15
               by_cases c16 : x33_3 < (l1.length : Int)
               ·rw [if_pos c16] at H
                have c16b0 := decide_eq_true c16
                clear c16
                obtain ⟨ji17, hji17⟩ : ∃ j_ : Int, (wrap64 (x26_2 + x33_3)) = j_ := ⟨_, rfl⟩
                replace H : (if 0 ≤ (ji17) then (if (ji17) < (x5_3.length : Int) then ((impl_ScMul.f (rd l0 x26_2) (rd l1 x33_3)).bind fun t350 => ((impl_ScAdd.f (rd x5_3 (ji17)) t350).bind fun t351 => (impl_PolyMul.l1 k3 l1 (x5_3.set ((ji17) : Int).toNat t351) x26_2 (rd l0 x26_2) l0 (l0.length : Int) x26_2 l1 (l1.length : Int) (wrap64 (x33_3 + 1))))) else (none)) else (none)) = some r := by first | (rw [hji17] at H; exact H) | (simp only [hji17] at H ⊢; exact H)
                have hji17w : (IntKind.i64.wrap (x26_2 + x33_3)) = ji17 := (i64_w _).trans hji17
                by_cases c18 : 0 ≤ (ji17)
                ·rw [if_pos c18] at H
                 have c18b0 := decide_eq_true c18
                 clear c18
                 by_cases c19 : (ji17) < (x5_3.length : Int)
                 ·rw [if_pos c19] at H
                  have c19b0 := decide_eq_true c19
                  clear c19
                  replace H := Option.bind_eq_some_iff.mp H
                  obtain ⟨t350, A200, H⟩ := H
                  have A20 := Aside0.mk A200
                  clear A200
                  replace H := Option.bind_eq_some_iff.mp H
                  obtain ⟨t351, A210, H⟩ := H
                  have A21 := Aside0.mk A210
                  clear A210
                  obtain ⟨y352, hy352⟩ : ∃ y_ : List Int, y_ = (x5_3.set ((ji17) : Int).toNat t351) := ⟨_, rfl⟩
                  replace H : (impl_PolyMul.l1 k3 l1 y352 x26_2 (rd l0 x26_2) l0 (l0.length : Int) x26_2 l1 (l1.length : Int) (wrap64 (x33_3 + 1))) = some r := by first | (rw [hy352]; with_reducible exact H) | (have H2_ := (Option.bind_some _ _).symm.trans H; rw [hy352]; with_reducible exact H2_) | (have H2_ := (Option.bind_some _ _).symm.trans H; with_reducible exact H2_) | with_reducible exact H | (rw [hy352]; exact H) | exact H
                  have Ny352 := Aside0.mk hy352
                  clear hy352
                  have H' := Aside0.mk H
                  clear H
                  have p348 : 0 ≤ (x33_3 : Int) := of_decide_eq_true (by first | (with_reducible assumption) | assumption)
                  have q348 : x33_3 < (l1.length : Int) := of_decide_eq_true (by first | (with_reducible assumption) | assumption)
                  obtain ⟨ad348, e348, hx348_0⟩ := Kd.at_int HR1.out x33_3 p348 q348
                  cases e348
                  replace hx348_0 := (hC HB hx348_0 :)
                  replace p348 := eq_true p348
                  replace q348 := eq_true q348
                  try go_wp2
                  replace HO_5 := Aside0.mk (Kd.R_drew HO_5.out)
                  replace HB := Aside0.mk (below_drew1 HB.out)
                  obtain ⟨Ao24, co24, eo24⟩ := Kd.R_slice HO_5.out
                  (first | subst eo24 | (injection eo24 with f1_ f2_ f3_; have f4_ := f1_.symm; have f5_ := f3_.symm; clear f1_ f2_ f3_; subst f4_; subst f5_))
                  have p349 : 0 ≤ ((ji17) : Int) := of_decide_eq_true (by first | (with_reducible assumption) | assumption)
                  have q349 : (ji17) < (x5_3.length : Int) := of_decide_eq_true (by first | (with_reducible assumption) | assumption)
                  obtain ⟨ad349, e349, hx349_0⟩ := Kd.at_int (Kd.R_reads' HO_5.out).2.2 (ji17) p349 q349
                  cases e349
                  replace p349 := eq_true p349
                  replace q349 := eq_true q349
                  refine start_ (n := 16) (S := fun w' => w'.cell? (ad349.add ((ji17)).toNat) = some (.int .i64 (rd x5_3 (ji17)))) (ds := [15]) #[false, false, false, false, false, false, false, false, false, false, false, false, false, false, false, false] (by kernel_rfl) rfl rfl (hx349_0) (fun hHeld => ?_); refine with_tabW impl_PolyMul.tab10 impl_PolyMul.bits10 (fun HT_ HW_ => ?_)
                  generalize wr.drew = w23 at HO_5 HB hx349_0 hHeld ⊢
                  refine pI 0 (some 38) HT_.out ?_
                  refine pI 1 (some 39) HT_.out ?_
                  refine pI 2 (some 40) HT_.out ?_
                  refine pI 3 (some 41) HT_.out ?_
                  refine pI 4 (some 42) HT_.out ?_
                  refine pI 5 (some 43) HT_.out ?_
                  refine pI 6 (some 44) HT_.out ?_
                  refine pI 7 (some 45) HT_.out ?_
                  refine pI 8 (some 46) HT_.out ?_
                  refine pI 10 (some 48) HT_.out ?_
                  refine pI 11 (some 49) HT_.out ?_
                  refine tI1 9 (some 47) HT_.out HW_.out hHeld ?_
                  refine oI 12 (some 50) HT_.out (fun K hK => ?_)
                  refine gO Try.func49 #[.int .i64 (rd l0 x26_2), .int .i64 (rd l1 x33_3)] ?_
                  with_reducible refine (impl_ScMul.calls (rd l0 x26_2) (rd l1 x33_3) t350 _ A20.out).mono ?_
                  rintro e w' ⟨rfl, ⟨nd, rfl⟩⟩
                  refine ⟨_, rfl, ?_⟩
                  refine hK.out _ _ (hHeld) (fun hHeld => ?_)
                  clear hK K
                  refine nO (some 50) ?_
                  refine oI 13 (some 51) HT_.out (fun K hK => ?_)
                  refine goes_ Try.func50 (by kernel_rfl) rfl #[.int .i64 (rd x5_3 (ji17)), .int .i64 t350] (by rfl) rfl rfl (by (try simp only [List.map_toArray, List.map_cons, List.map_nil]); first | done | (simp only [hji17]; rfl) | rfl | (simp only [List.length_drop, List.length_take]; rfl)) ?_
                  with_reducible refine (impl_ScAdd.calls (rd x5_3 (ji17)) t350 t351 _ A21.out).mono ?_
                  rintro e w' ⟨rfl, ⟨nd, rfl⟩⟩
                  refine ⟨_, rfl, ?_⟩
                  have p22 : 0 ≤ ((ji17) : Int) := of_decide_eq_true (by first | (with_reducible assumption) | assumption)
                  have q22 : ((ji17) : Int) < ((x5_3.length : Int) : Int) := of_decide_eq_true (by first | (with_reducible assumption) | assumption)
                  obtain ⟨go22, co22, eo22, gb22, gl22, cl22, HG22⟩ := Kd.R_form HO_5.out (by omega)
                  (first | cases eo22 | (injection eo22 with ea_ en_ ec_; (first | subst ea_ | (injection ea_ with ea_; subst ea_)); subst ec_; clear en_))
                  have GB22 := Aside0.mk gb22
                  have GG22 := Aside0.mk HG22
                  clear gb22 gl22 HG22
                  (first | simp only [add_plain] at hx349_0 | skip)
                  obtain ⟨hx22_0, hf22_0⟩ := Kd.R_celln 0 HO_5.out ((ji17) : Int) p22 q22
                  replace p22 := eq_true p22
                  replace q22 := eq_true q22
                  have HP25 := Kd.R_putn HO_5.out ((ji17) : Int) t351
                  rw [← Ny352.out] at HP25
                  have HQ25 := Aside0.mk HP25
                  clear HP25
                  refine hK.out _ _ (hHeld) (fun hHeld => ?_)
                  clear hK K
                  refine nO (some 51) ?_
                  refine pI 14 (some 52) HT_.out ?_
                  refine last_ (i := 15) (N := none) #[true, true, true, true, true, true, true, true, true, true, true, true, true, true, true, true] rfl rfl (one_of HT_.out (by kernel_rfl)) (by decide) (fun K hK => ?_)
                  refine skip_ (w1 := ?_) (by rfl) rfl ?_ ?_
                  rotate_left
                  ·go_simp
                   rfl
                  refine hK.out _ _ ?_
                  clear hK K
                  refine done_ (done_of HT_.out (by kernel_rfl)) ?_
                  try go_wp2
                  go_roundg k3
                  case measure => have := HJ2.out; have := HK2.out; have := HK3.out; omega
                  case rel => exact ⟨(y352), (wrap64 (x33_3 + 1)), rS, H', ⟨by have := HJ2.out; have := HK2.out; have := HK3.out; omega⟩, ⟨rP HQ25⟩, ⟨by repeat (first | (with_reducible first | exact HB.out | apply below_alloc | apply pw_below_drewN | apply below_drew1 | refine below_set ?_ GB22.out) | exact HB.out)⟩⟩
                 ·rw [if_neg c19] at H
                  exact absurd H (by simp)
                ·rw [if_neg c18] at H
                 exact absurd H (by simp)
               ·rw [if_neg c16] at H
                exact absurd H (by simp)
              ·rw [if_neg c15] at H
               exact absurd H (by simp)
             ·rw [if_neg c14] at H
              have c14b0 := decide_eq_false c14
              clear c14
              have H' := Aside0.mk H
              clear H
              go_wp2
              go_roundg k3
              case measure => have := HJ2.out; have := HK2.out; have := HK3.out; omega
              case rel => exact ⟨(x5_3), (wrap64 (x26_2 + 1)), rS, H', ⟨by have := HJ2.out; have := HK2.out; have := HK3.out; omega⟩, ⟨rP HO_5⟩, ⟨bZ HB⟩⟩
          ·rw [if_neg c13] at H
           exact absurd H (by simp)
         ·rw [if_neg c12] at H
          exact absurd H (by simp)
        ·rw [if_neg c11] at H
         have c11b0 := decide_eq_false c11
         clear c11
         replace H := Option.bind_eq_some_iff.mp H
         obtain ⟨t344, A260, H⟩ := H
         have A26 := Aside0.mk A260
         clear A260
         obtain rfl := Option.some.inj H
         obtain ⟨Ao27, co27, eo27⟩ := Kd.R_slice HO_5.out
         subst eo27
         go_wp2_with (first | (refine gC (some 56) Try.func20 #[.slice Ao27 x5_2.length co27] ?_; (with_reducible refine (impl_PolyTrim.calls k2 _ _ x5_2 t344 _ ?side1 ?side2 A26.out).mono ?_); (case side1 => exact cP ((Kd.R_reads' HO_5.out).2.2)); (case side2 => exact (Kd.R_reads' HO_5.out).2.1); rintro e w28 ⟨v345, rfl, ho0, hb⟩; refine ⟨_, rfl, ?_⟩; have HO346 := Aside0.mk (Kd.R_lower (Kd.R_new' ho0 (Kd.R_lt (rP HO_5))) (below_size (bZ HB))); replace HO_5 := Aside0.mk (Kd.R_elder' (rP HO_5) (Kd.R_base ho0) hb); replace HB := bS HB hb; (try clear hb); (try clear ho0)))
         go_ret
         exact ⟨_, by first | rfl | (simp [errW_none, errW_some] <;> rfl) | (simp only [← hji6]; first | rfl | (simp [errW_none, errW_some] <;> rfl)) | (simp [*, errW_none, errW_some] <;> rfl), by (with_reducible repeat (first | apply Kd.R_alloc | apply Kd.R_drewN | apply Kd.R_drew)); exact Kd.R_mono HO346.out (fun _ hk => trivial), bZ HB⟩
     ·rw [if_neg c8] at H
      exact absurd H (by simp)
    ·rw [if_neg c7] at H
     exact absurd H (by simp)
end Go.Proofs.Ytcnejiflpioaiaa.Pf
end
section
namespace Go.Proofs.Ytcnejiflpioaiaa.Pf
open Go.RowKit Go.Proofs.YtcnejiflpioaiaaW.PrintWords Go.Proofs.YtcnejiflpioaiaaW.PrintLast Go.Proofs.YtcnejiflpioaiaaW.PrintMore
attribute [local go_sem] max2_int min2_int max_two min_two max_three min_three max_four min_four   -- for this text's walks alone
set_option linter.unusedVariables false
set_option linter.unusedSimpArgs false
mutual
def impl_PolyZero.j0 : Nat → Int → Bool → Option (List Int)
 | 0, _, _ => none
 | k + 1, x0, x10 => if x10 = true then (some ([] : List Int)) else (impl_PolyZero.l0 k x0 (([1] : List Int)) 1)
def impl_PolyZero.l0 : Nat → Int → List Int → Int → Option (List Int)
 | 0, _, _, _ => none
 | k + 1, x0, x3, x4 => if x4 ≤ x0 then ((impl_PolyMul.f k x3 (([wrap64 (-x4), 1] : List Int))).bind fun t359 => (impl_PolyZero.l0 k x0 t359 (wrap64 (x4 + 1)))) else (some x3)
end
def impl_PolyZero.f (k : Nat) (a0 : Int) : Option (List Int) := if a0 < 0 then (impl_PolyZero.j0 k a0 true) else (impl_PolyZero.j0 k a0 (decide (a0 > 16)))
set_option maxHeartbeats 8000000 in
set_option maxRecDepth 100000 in
theorem impl_PolyZero.calls (k : Nat) (a0 : Int) (r : List Int) (w : World) (h : impl_PolyZero.f k a0 = some r) :
  Calls Try.prog 36 #[.int .i64 a0] w fun e w' => ∃ v0_ : Value, e = .returned (v0_) ∧ Kd.R (Kd.int .i64) 3 w' w.heap.size (fun _ => True) v0_ r ∧ Below w.heap.size w w' := by
 have HB := Aside0.mk (Below.refl w.heap.size w)
 have H : (if a0 < 0 then (impl_PolyZero.j0 k a0 true) else (impl_PolyZero.j0 k a0 (decide (a0 > 16)))) = some r := h
 clear h
 have HC2 := Aside0.mk H
 clear H
 go_enter Try.func36, Try.ntmps36
 go_upto_region 1 with (fail)
 go_cut [10] (fun v10 wc => ∃ (kq : Nat) (x10_1 : Bool), v10 = .bool x10_1 ∧ Aside0 (impl_PolyZero.j0 kq a0 x10_1 = some r) ∧ Aside0 (kq ≤ k) ∧ Aside0 (Below w.heap.size w wc))
 case first =>
  have H := HC2.out
  clear HC2
  by_cases c3 : a0 < 0
  ·rw [if_pos c3] at H
   have c3b0 := decide_eq_true c3
   clear c3
   (first | rw [c3b0] | (simp only [i64_w, i32_w]; rw [c3b0]) | rw [c3b1] | skip)
   have H' := Aside0.mk H
   clear H
   go_wp2
   go_meet
   case rel => exact ⟨_, (true), rS, H', ⟨by first | omega | exact Nat.le_refl _⟩, ⟨bZ HB⟩⟩
  ·rw [if_neg c3] at H
   have c3b0 := decide_eq_false c3
   clear c3
   (first | rw [c3b0] | (simp only [i64_w, i32_w]; rw [c3b0]) | rw [c3b1] | skip)
   have H' := Aside0.mk H
   clear H
   go_wp2
   go_meet
   case rel => exact ⟨_, (decide (a0 > 16)), rS, H', ⟨by first | omega | exact Nat.le_refl _⟩, ⟨bZ HB⟩⟩
 case rest =>
  clear HC2
  try clear p2
  try clear c3
  try clear c3b0
  obtain ⟨kq, x10_1, rfl, HA, HJ1, HB⟩ := hcut
  cases kq with
  | zero => exact absurd HA.out (by simp [impl_PolyZero.j0])
  | succ kj1 =>
   have H := HA.out
   clear HA
   simp only [impl_PolyZero.j0] at H
   by_cases c4 : x10_1 = true
   ·subst c4
    rw [if_pos rfl] at H
    obtain rfl := Option.some.inj H
    go_wp2
    go_ret
    exact ⟨_, by first | rfl | (simp [errW_none, errW_some] <;> rfl) | (simp [*, errW_none, errW_some] <;> rfl), by first | exact Kd.R_nil _ _ _ _ _ | exact Kd.N_nil _ _ _ _ _ | exact Kd.V_nil _ _ _ _ _ | exact Kd.Q_nil _ _ _ _ _ | exact Kd.S_nil _ _ _ _ _, bZ HB⟩
   ·replace c4 := Bool.eq_false_iff.mpr c4
    subst c4
    rw [if_neg (show ¬ (false = true) by decide)] at H
    obtain ⟨y353, hy353⟩ : ∃ y_ : List Int, y_ = (([1] : List Int)) := ⟨_, rfl⟩
    replace H : (impl_PolyZero.l0 kj1 a0 y353 1) = some r := by first | (rw [hy353]; with_reducible exact H) | (have H2_ := (Option.bind_some _ _).symm.trans H; rw [hy353]; with_reducible exact H2_) | (have H2_ := (Option.bind_some _ _).symm.trans H; with_reducible exact H2_) | with_reducible exact H | (rw [hy353]; exact H) | exact H
    have Ny353 := Aside0.mk hy353
    clear hy353
    have H' := Aside0.mk H
    clear H
    go_wp2_with (first | ((with_reducible refine gate_dst (N := 11) rfl ?_); refine Kd.R_lit (Kd.int .i64) _ 3 ?hg (N := 11) ?hd (xs := ([1] : List Int)) (inner := [.int .i64 1]) (ok := fun _ => True) (okp := fun _ => True) ?hr ?hp (fun _ hk => hk) trivial (Below.refl _ _) (Nat.le_refl _) (by simp) ?_; (case hd => rfl); (case hg => rfl); (case hr => first | (go_simp; done) | (go_simp; rfl)); (case hp => exact (Reps.one (show Kd.M (Kd.int .i64) _ _ _ 1 [.int .i64 1] from rfl) (Reps.none _ _))); intro v354 w5 ho6 hb hg_ hnew_; clear hg_ hnew_; (first | rw [← Ny353.out] at ho6 | (simp only [Int.reduceToNat] at ho6; rw [← Ny353.out] at ho6)); have HO355 := Aside0.mk (Kd.R_lower ho6 (below_size (bZ HB))); replace HB := bS HB hb; clear hb ho6))
    go_loopg [3, 4] kj1 (fun kq v3 v4 w' => ∃ (x3_2 : List Int) (x4_2 : Int), v4 = .int .i64 x4_2 ∧ Aside0 (impl_PolyZero.l0 kq a0 x3_2 x4_2 = some r) ∧ Aside0 (kq ≤ kj1) ∧ Aside0 (Kd.R (Kd.int .i64) 3 w' w.heap.size (fun _ => True) v3 x3_2) ∧ Aside0 (Below w.heap.size w w'))
    case atStart => exact ⟨(y353), (1), rS, H', ⟨Nat.le_refl _⟩, ⟨rP HO355⟩, ⟨bZ HB⟩⟩
    case round =>
     clear H'
     try clear p2
     try clear c3
     try clear c3b0
     try clear c4
     try clear p2
     obtain ⟨x3_2, x4_2, rfl, HA, HK2, HO_3, HB⟩ := hrel
     cases gk with
     | zero => exact absurd HA.out (by simp [impl_PolyZero.l0])
     | succ k2 =>
      have H := HA.out
      clear HA
      simp only [impl_PolyZero.l0] at H
      by_cases c7 : x4_2 ≤ a0
      ·rw [if_pos c7] at H
       have c7b0 := decide_eq_true c7
       clear c7
       obtain ⟨y356, hy356⟩ : ∃ y_ : List Int, y_ = (([wrap64 (-x4_2), 1] : List Int)) := ⟨_, rfl⟩
       replace H : ((impl_PolyMul.f k2 x3_2 y356).bind fun t359 => (impl_PolyZero.l0 k2 a0 t359 (wrap64 (x4_2 + 1)))) = some r := by first | (rw [hy356]; with_reducible exact H) | (have H2_ := (Option.bind_some _ _).symm.trans H; rw [hy356]; with_reducible exact H2_) | (have H2_ := (Option.bind_some _ _).symm.trans H; with_reducible exact H2_) | with_reducible exact H | (rw [hy356]; exact H) | exact H
       have Ny356 := Aside0.mk hy356
       clear hy356
       replace H := Option.bind_eq_some_iff.mp H
       obtain ⟨t359, A80, H⟩ := H
       have A8 := Aside0.mk A80
       clear A80
       have H' := Aside0.mk H
       clear H
       go_wp2_with (first | ((with_reducible refine gate_dst (N := 20) rfl ?_); refine Kd.R_lit (Kd.int .i64) _ 3 ?hg (N := 20) ?hd (xs := ([wrap64 (-x4_2), 1] : List Int)) (inner := [.int .i64 (wrap64 (-x4_2)), .int .i64 1]) (ok := fun _ => True) (okp := fun _ => True) ?hr ?hp (fun _ hk => hk) trivial (Below.refl _ _) (Nat.le_refl _) (by simp) ?_; (case hd => rfl); (case hg => rfl); (case hr => first | (go_simp; done) | (go_simp; rfl)); (case hp => exact (Reps.one (show Kd.M (Kd.int .i64) _ _ _ (wrap64 (-x4_2)) [.int .i64 (wrap64 (-x4_2))] from rfl) (Reps.one (show Kd.M (Kd.int .i64) _ _ _ 1 [.int .i64 1] from rfl) (Reps.none _ _)))); intro v357 w9 ho10 hb hg_ hnew_; clear hg_ hnew_; (first | rw [← Ny356.out] at ho10 | (simp only [Int.reduceToNat] at ho10; rw [← Ny356.out] at ho10)); have HO358 := Aside0.mk (Kd.R_lower (Kd.R_new' ho10 (Kd.R_lt (rP HO_3))) (below_size (bZ HB))); replace HO_3 := Aside0.mk (Kd.R_elder' (rP HO_3) (Kd.R_base ho10) hb); replace HB := bS HB hb; clear hb ho10; obtain ⟨Ao11, co11, eo11⟩ := Kd.R_slice HO_3.out; subst eo11; obtain ⟨Ao12, co12, eo12⟩ := Kd.R_slice HO358.out; subst eo12) | (refine gC (some 21) Try.func34 #[.slice Ao11 x3_2.length co11, .slice Ao12 y356.length co12] ?_; (with_reducible refine (impl_PolyMul.calls k2 _ _ x3_2 _ _ y356 t359 _ ?side1 ?side2 ?side3 ?side4 A8.out).mono ?_); (case side1 => exact cP ((Kd.R_reads' HO_3.out).2.2)); (case side2 => exact (Kd.R_reads' HO_3.out).2.1); (case side3 => exact cP ((Kd.R_reads' HO358.out).2.2)); (case side4 => exact (Kd.R_reads' HO358.out).2.1); rintro e w13 ⟨v360, rfl, ho0, hb⟩; refine ⟨_, rfl, ?_⟩; have HO361 := Aside0.mk (Kd.R_lower (Kd.R_new' (Kd.R_new' ho0 (Kd.R_lt (rP HO_3))) (Kd.R_lt (rP HO358))) (below_size (bZ HB))); replace HO_3 := Aside0.mk (Kd.R_elder' (rP HO_3) (Kd.R_base ho0) hb); replace HO358 := Aside0.mk (Kd.R_elder' (rP HO358) (Kd.R_base ho0) hb); replace HB := bS HB hb; (try clear hb); (try clear ho0)))
       go_roundg k2
       case measure => have := HJ1.out; have := HK2.out; omega
       case rel => exact ⟨(t359), (wrap64 (x4_2 + 1)), rS, H', ⟨by have := HJ1.out; have := HK2.out; omega⟩, ⟨by (with_reducible repeat (first | apply Kd.R_alloc | apply Kd.R_drewN | apply Kd.R_drew)); exact Kd.R_mono HO361.out (fun _ hk => trivial)⟩, ⟨bZ HB⟩⟩
      ·rw [if_neg c7] at H
       have c7b0 := decide_eq_false c7
       clear c7
       obtain rfl := Option.some.inj H
       go_wp2
       go_ret
       exact ⟨_, by first | rfl | (simp [errW_none, errW_some] <;> rfl) | (simp [*, errW_none, errW_some] <;> rfl), by (with_reducible repeat (first | apply Kd.R_alloc | apply Kd.R_drewN | apply Kd.R_drew)); exact HO_3.out, bZ HB⟩
end Go.Proofs.Ytcnejiflpioaiaa.Pf
end
section
namespace Go.Proofs.Ytcnejiflpioaiaa.Pf
open Go.RowKit Go.Proofs.YtcnejiflpioaiaaW.PrintWords Go.Proofs.YtcnejiflpioaiaaW.PrintLast Go.Proofs.YtcnejiflpioaiaaW.PrintMore
attribute [local go_sem] max2_int min2_int max_two min_two max_three min_three max_four min_four   -- for this text's walks alone
set_option linter.unusedVariables false
set_option linter.unusedSimpArgs false
def impl_powerMod.l0 : Nat → Int → Int → Int → Int → Option (Int)
 | 0, _, _, _, _ => none
 | k + 1, x0, x1, x2, x7 => if x1 > 0 then (if (Int.tmod x1 2) = 1 then (if x2 = 0 then (none) else (impl_powerMod.l0 k (Int.tmod (wrap64 (x0 * x0)) x2) (wrap64 (Int.tdiv x1 2)) x2 (Int.tmod (wrap64 (x7 * x0)) x2))) else (if x2 = 0 then (none) else (impl_powerMod.l0 k (Int.tmod (wrap64 (x0 * x0)) x2) (wrap64 (Int.tdiv x1 2)) x2 x7))) else (some x7)
def impl_powerMod.f (k : Nat) (a0 : Int) (a1 : Int) (a2 : Int) : Option (Int) := (impl_remainder.f a0 a2).bind fun t362 => (impl_powerMod.l0 k t362 a1 a2 1)
set_option maxHeartbeats 8000000 in
set_option maxRecDepth 100000 in
theorem impl_powerMod.calls (k : Nat) (a0 : Int) (a1 : Int) (a2 : Int) (r : Int) (w : World) (h : impl_powerMod.f k a0 a1 a2 = some r) :
  Calls Try.prog 93 #[.int .i64 a0, .int .i64 a1, .int .i64 a2] w fun e w' => e = .returned (.int .i64 r) ∧ Drawn0 w w' := by
 have H : ((impl_remainder.f a0 a2).bind fun t362 => (impl_powerMod.l0 k t362 a1 a2 1)) = some r := h
 clear h
 replace H := Option.bind_eq_some_iff.mp H
 obtain ⟨t362, A40, H⟩ := H
 have A4 := Aside0.mk A40
 clear A40
 have H' := Aside0.mk H
 clear H
 go_enter Try.func93, Try.ntmps93
 go_wp2_with (first | (refine gC (some 10) Try.func87 #[.int .i64 a0, .int .i64 a2] ?_; (with_reducible refine (impl_remainder.calls a0 a2 t362 _ A4.out).mono ?_); rintro e w' ⟨rfl, ⟨nd, rfl⟩⟩; refine ⟨_, rfl, ?_⟩))
 go_loopg [0, 1, 7] k (fun kq v0 v1 v7 w' => ∃ (x0_1 : Int) (x1_1 : Int) (x7_1 : Int), v0 = .int .i64 x0_1 ∧ v1 = .int .i64 x1_1 ∧ v7 = .int .i64 x7_1 ∧ Aside0 (impl_powerMod.l0 kq x0_1 x1_1 a2 x7_1 = some r) ∧ Aside0 (kq ≤ k) ∧ Drawn0 w w')
 case atStart => exact ⟨(t362), (a1), (1), rS, rS, rS, H', ⟨Nat.le_refl _⟩, by repeat (first | exact Drawn0.refl _ | apply Drawn0.step)⟩
 case round =>
  clear H'
  try clear p2
  obtain ⟨x0_1, x1_1, x7_1, rfl, rfl, rfl, HA, HK1, ⟨m1, rfl⟩⟩ := hrel
  cases gk with
  | zero => exact absurd HA.out (by simp [impl_powerMod.l0])
  | succ k1 =>
   have H := HA.out
   clear HA
   simp only [impl_powerMod.l0] at H
   by_cases c5 : x1_1 > 0
   ·rw [if_pos c5] at H
    have c5b0 := decide_eq_true c5
    clear c5
    by_cases c6 : (Int.tmod x1_1 2) = 1
    ·rw [if_pos c6] at H
     have c6b0 : ((Int.tmod x1_1 2) == 1) = true := beq_iff_eq.mpr c6
     have c6b1 : ((Int.tmod x1_1 2) != 1) = false := bne_eq_false_iff_eq.mpr c6
     clear c6
     by_cases c7 : a2 = 0
     ·rw [if_pos c7] at H
      exact absurd H (by simp)
     ·rw [if_neg c7] at H
      have c7b0 : (a2 == 0) = false := beq_eq_false_iff_ne.mpr c7
      have c7b1 : (a2 != 0) = true := bne_iff_ne.mpr c7
      have H' := Aside0.mk H
      clear H
      go_wp2
      go_roundg k1
      case measure => have := HK1.out; omega
      case rel => exact ⟨(Int.tmod (wrap64 (x0_1 * x0_1)) a2), (wrap64 (Int.tdiv x1_1 2)), (Int.tmod (wrap64 (x7_1 * x0_1)) a2), rS, rS, rS, H', ⟨by have := HK1.out; omega⟩, by repeat (first | exact Drawn0.refl _ | apply Drawn0.step)⟩
    ·rw [if_neg c6] at H
     have c6b0 : ((Int.tmod x1_1 2) == 1) = false := beq_eq_false_iff_ne.mpr c6
     have c6b1 : ((Int.tmod x1_1 2) != 1) = true := bne_iff_ne.mpr c6
     by_cases c8 : a2 = 0
     ·rw [if_pos c8] at H
      exact absurd H (by simp)
     ·rw [if_neg c8] at H
      have c8b0 : (a2 == 0) = false := beq_eq_false_iff_ne.mpr c8
      have c8b1 : (a2 != 0) = true := bne_iff_ne.mpr c8
      have H' := Aside0.mk H
      clear H
      go_wp2
      go_roundg k1
      case measure => have := HK1.out; omega
      case rel => exact ⟨(Int.tmod (wrap64 (x0_1 * x0_1)) a2), (wrap64 (Int.tdiv x1_1 2)), (x7_1), rS, rS, rS, H', ⟨by have := HK1.out; omega⟩, by repeat (first | exact Drawn0.refl _ | apply Drawn0.step)⟩
   ·rw [if_neg c5] at H
    have c5b0 := decide_eq_false c5
    clear c5
    obtain rfl := Option.some.inj H
    go_wp2
    go_ret
    exact ⟨rS, rD⟩
def impl_ScInv.f (k : Nat) (a0 : Int) : Option (Int) := (impl_powerMod.f k a0 1007 1009).bind fun t363 => (some t363)
set_option maxHeartbeats 8000000 in
set_option maxRecDepth 100000 in
theorem impl_ScInv.calls (k : Nat) (a0 : Int) (r : Int) (w : World) (h : impl_ScInv.f k a0 = some r) :
  Calls Try.prog 73 #[.int .i64 a0] w fun e w' => e = .returned (.int .i64 r) ∧ Drawn0 w w' := by
 have H : ((impl_powerMod.f k a0 1007 1009).bind fun t363 => (some t363)) = some r := h
 clear h
 replace H := Option.bind_eq_some_iff.mp H
 obtain ⟨t363, A20, H⟩ := H
 have A2 := Aside0.mk A20
 clear A20
 obtain rfl := Option.some.inj H
 go_enter Try.func73, Try.ntmps73
 go_wp2_with (first | (refine gC (some 4) Try.func93 #[.int .i64 a0, .int .i64 1007, .int .i64 1009] ?_; (with_reducible refine (impl_powerMod.calls k a0 1007 1009 t363 _ A2.out).mono ?_); rintro e w' ⟨rfl, ⟨nd, rfl⟩⟩; refine ⟨_, rfl, ?_⟩))
 go_ret
 exact ⟨rS, rD⟩
def impl_ScNeg.f (a0 : Int) : Option (Int) := (impl_ScOf.f a0).bind fun t364 => ((impl_ScOf.f (wrap64 (-t364))).bind fun t365 => (some t365))
set_option maxHeartbeats 8000000 in
set_option maxRecDepth 100000 in
theorem impl_ScNeg.calls (a0 : Int) (r : Int) (w : World) (h : impl_ScNeg.f a0 = some r) :
  Calls Try.prog 74 #[.int .i64 a0] w fun e w' => e = .returned (.int .i64 r) ∧ Drawn0 w w' := by
 have H : ((impl_ScOf.f a0).bind fun t364 => ((impl_ScOf.f (wrap64 (-t364))).bind fun t365 => (some t365))) = some r := h
 clear h
 replace H := Option.bind_eq_some_iff.mp H
 obtain ⟨t364, A20, H⟩ := H
 have A2 := Aside0.mk A20
 clear A20
 replace H := Option.bind_eq_some_iff.mp H
 obtain ⟨t365, A30, H⟩ := H
 have A3 := Aside0.mk A30
 clear A30
 obtain rfl := Option.some.inj H
 go_enter Try.func74, Try.ntmps74
 go_wp2_with (first | (refine gC (some 4) Try.func63 #[.int .i64 a0] ?_; (with_reducible refine (impl_ScOf.calls a0 t364 _ A2.out).mono ?_); rintro e w' ⟨rfl, ⟨nd, rfl⟩⟩; refine ⟨_, rfl, ?_⟩) | (refine gC (some 6) Try.func63 #[.int .i64 (wrap64 (-t364))] ?_; (with_reducible refine (impl_ScOf.calls (wrap64 (-t364)) t365 _ A3.out).mono ?_); rintro e w' ⟨rfl, ⟨nd, rfl⟩⟩; refine ⟨_, rfl, ?_⟩))
 go_ret
 exact ⟨rS, rD⟩
end Go.Proofs.Ytcnejiflpioaiaa.Pf
end
section
namespace Go.Proofs.Ytcnejiflpioaiaa.Pf
open Go.RowKit Go.Proofs.YtcnejiflpioaiaaW.PrintWords Go.Proofs.YtcnejiflpioaiaaW.PrintLast Go.Proofs.YtcnejiflpioaiaaW.PrintMore
attribute [local go_sem] max2_int min2_int max_two min_two max_three min_three max_four min_four   -- for this text's walks alone
set_option linter.unusedVariables false
set_option linter.unusedSimpArgs false
mutual
def impl_PolyDivide.j0 : Nat → List Int → List Int → Bool → Option (List Int × List Int)
 | 0, _, _, _ => none
 | k + 1, x0, x1, x21 => if x21 = true then (some (([] : List Int), ([] : List Int))) else ((impl_PolyTrim.f k x0).bind fun t366 => ((impl_PolyTrim.f k x1).bind fun t369 => (if (t369.length : Int) = 0 then (some (([] : List Int), t366)) else (if 0 ≤ (wrap64 ((t369.length : Int) - 1)) then (if (wrap64 ((t369.length : Int) - 1)) < (t369.length : Int) then ((impl_ScInv.f k (rd t369 (wrap64 ((t369.length : Int) - 1)))).bind fun t373 => (if 0 ≤ (mx (wrap64 ((wrap64 ((t366.length : Int) - (t369.length : Int))) + 1)) 0) then (if (mx (wrap64 ((wrap64 ((t366.length : Int) - (t369.length : Int))) + 1)) 0 : Int).toNat ≤ 35184372088832 then (impl_PolyDivide.l0 k t366 t369 t373 (List.replicate (mx (wrap64 ((wrap64 ((t366.length : Int) - (t369.length : Int))) + 1)) 0 : Int).toNat 0)) else (none)) else (none))) else (none)) else (none)))))
def impl_PolyDivide.l0 : Nat → List Int → List Int → Int → List Int → Option (List Int × List Int)
 | 0, _, _, _, _ => none
 | k + 1, x6, x7, x8, x9 => if (x6.length : Int) ≥ (x7.length : Int) then (if 0 ≤ (wrap64 ((x6.length : Int) - 1)) then (if (wrap64 ((x6.length : Int) - 1)) < (x6.length : Int) then ((impl_ScMul.f (rd x6 (wrap64 ((x6.length : Int) - 1))) x8).bind fun t381 => (if 0 ≤ (wrap64 ((x6.length : Int) - (x7.length : Int))) then (if (wrap64 ((x6.length : Int) - (x7.length : Int))) < (x9.length : Int) then (impl_PolyDivide.l1 k x6 x7 x8 (x9.set ((wrap64 ((x6.length : Int) - (x7.length : Int))) : Int).toNat t381) (wrap64 ((x6.length : Int) - (x7.length : Int))) t381 x7 (x7.length : Int) 0) else (none)) else (none))) else (none)) else (none)) else ((impl_PolyTrim.f k x9).bind fun t377 => (some (t377, x6)))
def impl_PolyDivide.l1 : Nat → List Int → List Int → Int → List Int → Int → Int → List Int → Int → Int → Option (List Int × List Int)
 | 0, _, _, _, _, _, _, _, _, _ => none
 | k + 1, x6, x7, x8, x9, x10, x11, x67, x68, x69 => if x69 < x68 then (if 0 ≤ x69 then (if x69 < (x67.length : Int) then (if 0 ≤ (wrap64 (x10 + x69)) then (if (wrap64 (x10 + x69)) < (x6.length : Int) then ((impl_ScMul.f (rd x67 x69) x11).bind fun t385 => ((impl_ScNeg.f t385).bind fun t386 => ((impl_ScAdd.f (rd x6 (wrap64 (x10 + x69))) t386).bind fun t387 => (impl_PolyDivide.l1 k (x6.set ((wrap64 (x10 + x69)) : Int).toNat t387) x7 x8 x9 x10 x11 x67 x68 (wrap64 (x69 + 1)))))) else (none)) else (none)) else (none)) else (none)) else ((impl_PolyTrim.f k x6).bind fun t389 => (impl_PolyDivide.l0 k t389 x7 x8 x9))
end
def impl_PolyDivide.f (k : Nat) (l0 : List Int) (l1 : List Int) : Option (List Int × List Int) := if (l0.length : Int) > 64 then (impl_PolyDivide.j0 k l0 l1 true) else (impl_PolyDivide.j0 k l0 l1 (decide ((l1.length : Int) > 64)))
def impl_PolyDivide.T15 : Bool × List (List Nat × List Nat) := (true, [([], []), ([], []), ([], []), ([1, 2], [1, 2]), ([], []), ([], []), ([], []), ([5, 6], [5, 6]), ([4, 7], [4, 7]), ([8], [8]), ([], []), ([], []), ([10, 11], [10, 11]), ([12, 12], [12]), ([9, 13, 13], [9, 13]), ([0, 3, 0, 1, 2, 3, 4, 5, 6, 7, 8, 9, 10, 11, 12, 13, 14], [0, 3]), ([15, 14, 14, 0, 1, 2, 3, 4, 5, 6, 7, 8, 9, 10, 11, 12, 13, 14], [14, 15])])
def impl_PolyDivide.B15 : List Nat := [0, 0, 0, 6, 0, 0, 0, 96, 240, 496, 0, 0, 3072, 7168, 16368, 32767, 65535]
theorem impl_PolyDivide.tab15 : rtab .any (opsOf Try.f38 15) = impl_PolyDivide.T15 := by kernel_rfl
theorem impl_PolyDivide.bits15 : waitsOk impl_PolyDivide.T15.2 impl_PolyDivide.B15 = true := by kernel_rfl
set_option maxHeartbeats 8000000 in
set_option maxRecDepth 100000 in
theorem impl_PolyDivide.calls (k : Nat) (A0 : Option Addr) (c0 : Nat) (l0 : List Int) (A1 : Option Addr) (c1 : Nat) (l1 : List Int) (r1 : List Int) (r2 : List Int) (w : World) (hr0 : Kd.C (Kd.int .i64) w A0 l0.length l0) (hc0 : l0.length ≤ c0) (hr1 : Kd.C (Kd.int .i64) w A1 l1.length l1) (hc1 : l1.length ≤ c1) (h : impl_PolyDivide.f k l0 l1 = some (r1, r2)) :
  Calls Try.prog 38 #[.slice A0 l0.length c0, .slice A1 l1.length c1] w fun e w' => ∃ v0_ v1_ : Value, e = .returned (.tuple #[v0_, v1_]) ∧ Kd.R (Kd.int .i64) 3 w' w.heap.size (fun k_ => some k_ ≠ (v1_ : Value).ownBlock) v0_ r1 ∧ Kd.R (Kd.int .i64) 3 w' w.heap.size (fun k_ => some k_ ≠ (v0_ : Value).ownBlock) v1_ r2 ∧ Below w.heap.size w w' := by
 have HR0 := Aside0.mk hr0
 have HC0 := Aside0.mk hc0
 clear hr0 hc0
 have HR1 := Aside0.mk hr1
 have HC1 := Aside0.mk hc1
 clear hr1 hc1
 have HB := Aside0.mk (Below.refl w.heap.size w)
 have H : (if (l0.length : Int) > 64 then (impl_PolyDivide.j0 k l0 l1 true) else (impl_PolyDivide.j0 k l0 l1 (decide ((l1.length : Int) > 64)))) = some (r1, r2) := h
 clear h
 have HC3 := Aside0.mk H
 clear H
 go_enter Try.func38, Try.ntmps38
 go_upto_region 1 with (fail)
 go_cut [21] (fun v21 wc => ∃ (kq : Nat) (x21_2 : Bool), v21 = .bool x21_2 ∧ Aside0 (impl_PolyDivide.j0 kq l0 l1 x21_2 = some (r1, r2)) ∧ Aside0 (kq ≤ k) ∧ Aside0 (Below w.heap.size w wc))
 case first =>
  have H := HC3.out
  clear HC3
  by_cases c4 : (l0.length : Int) > 64
  ·rw [if_pos c4] at H
   have c4b0 := decide_eq_true c4
   have c4b1 : decide (64 < l0.length) = true := decide_eq_true (by omega)
   clear c4
   (first | rw [c4b0] | (simp only [i64_w, i32_w]; rw [c4b0]) | rw [c4b1] | skip)
   have H' := Aside0.mk H
   clear H
   go_wp2
   go_meet
   case rel => exact ⟨_, (true), rS, H', ⟨by first | omega | exact Nat.le_refl _⟩, ⟨bZ HB⟩⟩
  ·rw [if_neg c4] at H
   have c4b0 := decide_eq_false c4
   have c4b1 : decide (64 < l0.length) = false := decide_eq_false (by omega)
   clear c4
   (first | rw [c4b0] | (simp only [i64_w, i32_w]; rw [c4b0]) | rw [c4b1] | skip)
   have H' := Aside0.mk H
   clear H
   go_wp2
   go_meet
   case rel => exact ⟨_, (decide ((l1.length : Int) > 64)), rS, H', ⟨by first | omega | exact Nat.le_refl _⟩, ⟨bZ HB⟩⟩
 case rest =>
  clear HC3
  try clear c1
  try clear p2
  try clear c3
  try clear c4
  try clear c4b0
  try clear c4b1
  obtain ⟨kq, x21_2, rfl, HA, HJ2, HB⟩ := hcut
  cases kq with
  | zero => exact absurd HA.out (by simp [impl_PolyDivide.j0])
  | succ kj2 =>
   have H := HA.out
   clear HA
   simp only [impl_PolyDivide.j0] at H
   by_cases c5 : x21_2 = true
   ·subst c5
    rw [if_pos rfl] at H
    simp only [Option.some.injEq, Prod.mk.injEq] at H
    obtain ⟨rfl, rfl⟩ := H
    go_wp2
    go_ret2
    exact ⟨_, _, by first | rfl | (simp [errW_none, errW_some] <;> rfl) | (simp [*, errW_none, errW_some] <;> rfl), by first | exact Kd.R_nil _ _ _ _ _ | exact Kd.N_nil _ _ _ _ _ | exact Kd.V_nil _ _ _ _ _ | exact Kd.Q_nil _ _ _ _ _ | exact Kd.S_nil _ _ _ _ _, by first | exact Kd.R_nil _ _ _ _ _ | exact Kd.N_nil _ _ _ _ _ | exact Kd.V_nil _ _ _ _ _ | exact Kd.Q_nil _ _ _ _ _ | exact Kd.S_nil _ _ _ _ _, bZ HB⟩
   ·replace c5 := Bool.eq_false_iff.mpr c5
    subst c5
    rw [if_neg (show ¬ (false = true) by decide)] at H
    replace H := Option.bind_eq_some_iff.mp H
    obtain ⟨t366, A60, H⟩ := H
    have A6 := Aside0.mk A60
    clear A60
    replace H := Option.bind_eq_some_iff.mp H
    obtain ⟨t369, A70, H⟩ := H
    have A7 := Aside0.mk A70
    clear A70
    by_cases c8 : (t369.length : Int) = 0
    ·rw [if_pos c8] at H
     have c8b0 : ((t369.length : Int) == 0) = true := beq_iff_eq.mpr c8
     have c8b1 : ((t369.length : Int) != 0) = false := bne_eq_false_iff_eq.mpr c8
     clear c8
     simp only [Option.some.injEq, Prod.mk.injEq] at H
     obtain ⟨rfl, rfl⟩ := H
     go_wp2_with (first | (refine gC (some 23) Try.func20 #[.slice A0 l0.length c0] ?_; (with_reducible refine (impl_PolyTrim.calls kj2 _ _ l0 t366 _ ?side1 ?side2 A6.out).mono ?_); (case side1 => exact cP (Kd.C_below HR0.out HB.out)); (case side2 => exact HC0.out); rintro e w9 ⟨v367, rfl, ho0, hb⟩; refine ⟨_, rfl, ?_⟩; have HO368 := Aside0.mk (Kd.R_lower ho0 (below_size (bZ HB))); replace HB := bS HB hb; (try clear hb); (try clear ho0)) | (refine gC (some 25) Try.func20 #[.slice A1 l1.length c1] ?_; (with_reducible refine (impl_PolyTrim.calls kj2 _ _ l1 t369 _ ?side1 ?side2 A7.out).mono ?_); (case side1 => exact cP (Kd.C_below HR1.out HB.out)); (case side2 => exact HC1.out); rintro e w10 ⟨v370, rfl, ho0, hb⟩; refine ⟨_, rfl, ?_⟩; have HO371 := Aside0.mk (Kd.R_lower (Kd.R_new' ho0 (Kd.R_lt (rP HO368))) (below_size (bZ HB))); replace HO368 := Aside0.mk (Kd.R_elder' (rP HO368) (Kd.R_base ho0) hb); replace HB := bS HB hb; (try clear hb); (try clear ho0); obtain ⟨Ao11, co11, eo11⟩ := Kd.R_slice HO371.out; subst eo11))
     go_ret2
     exact ⟨_, _, by first | rfl | (simp [errW_none, errW_some] <;> rfl) | (simp [*, errW_none, errW_some] <;> rfl), by first | exact Kd.R_nil _ _ _ _ _ | exact Kd.N_nil _ _ _ _ _ | exact Kd.V_nil _ _ _ _ _ | exact Kd.Q_nil _ _ _ _ _ | exact Kd.S_nil _ _ _ _ _, by (with_reducible repeat (first | apply Kd.R_alloc | apply Kd.R_drewN | apply Kd.R_drew)); exact Kd.R_mono HO368.out (fun _ hk => (by simp [Value.ownBlock])), bZ HB⟩
    ·rw [if_neg c8] at H
     have c8b0 : ((t369.length : Int) == 0) = false := beq_eq_false_iff_ne.mpr c8
     have c8b1 : ((t369.length : Int) != 0) = true := bne_iff_ne.mpr c8
     have c8b2 : ¬ (t369 = []) := fun h_ => c8 (by rw [h_]; rfl)
     obtain ⟨ji12, hji12⟩ : ∃ j_ : Int, (wrap64 ((t369.length : Int) - 1)) = j_ := ⟨_, rfl⟩
     replace H : (if 0 ≤ (ji12) then (if (ji12) < (t369.length : Int) then ((impl_ScInv.f kj2 (rd t369 (ji12))).bind fun t373 => (if 0 ≤ (mx (wrap64 ((wrap64 ((t366.length : Int) - (t369.length : Int))) + 1)) 0) then (if (mx (wrap64 ((wrap64 ((t366.length : Int) - (t369.length : Int))) + 1)) 0 : Int).toNat ≤ 35184372088832 then (impl_PolyDivide.l0 kj2 t366 t369 t373 (List.replicate (mx (wrap64 ((wrap64 ((t366.length : Int) - (t369.length : Int))) + 1)) 0 : Int).toNat 0)) else (none)) else (none))) else (none)) else (none)) = some (r1, r2) := by first | (rw [hji12] at H; exact H) | (simp only [hji12] at H ⊢; exact H)
     (try rw [hji12] at A6)
     (try rw [hji12] at A7)
     have hji12w : (IntKind.i64.wrap ((t369.length : Int) - 1)) = ji12 := (i64_w _).trans hji12
     by_cases c13 : 0 ≤ (ji12)
     ·rw [if_pos c13] at H
      have c13b0 := decide_eq_true c13
      clear c13
      by_cases c14 : (ji12) < (t369.length : Int)
      ·rw [if_pos c14] at H
       have c14b0 := decide_eq_true c14
       clear c14
       replace H := Option.bind_eq_some_iff.mp H
       obtain ⟨t373, A150, H⟩ := H
       have A15 := Aside0.mk A150
       clear A150
       obtain ⟨ji16, hji16⟩ : ∃ j_ : Int, (mx (wrap64 ((wrap64 ((t366.length : Int) - (t369.length : Int))) + 1)) 0) = j_ := ⟨_, rfl⟩
       replace H : (if 0 ≤ (ji16) then (if (ji16 : Int).toNat ≤ 35184372088832 then (impl_PolyDivide.l0 kj2 t366 t369 t373 (List.replicate (ji16 : Int).toNat 0)) else (none)) else (none)) = some (r1, r2) := by first | (rw [hji16] at H; exact H) | (simp only [hji16] at H ⊢; exact H)
       (try rw [hji16] at A6)
       (try rw [hji16] at A7)
       (try rw [hji16] at A15)
       (try (have hji16l : 0 ≤ ji16 := by (rw [← hji16]; unfold mx; (repeat' split) <;> omega)))
       (try (have hji16m : 0 ≤ ji16 := by omega))
       have hji16_ : (if (wrap64 ((wrap64 ((t366.length : Int) - (t369.length : Int))) + 1)) < 0 then 0 else (wrap64 ((wrap64 ((t366.length : Int) - (t369.length : Int))) + 1))) = ji16 := hji16
       try (have hji16n_ := hji16_; simp only [Int.ofNat_lt] at hji16n_)
       by_cases c17 : 0 ≤ (ji16)
       ·rw [if_pos c17] at H
        have c17b0 := eq_true c17
        have c17b1 := decide_eq_true c17
        clear c17
        by_cases c18 : (ji16 : Int).toNat ≤ 35184372088832
        ·rw [if_pos c18] at H
         have c18b0 := eq_true c18
         have c18b1 := decide_eq_true c18
         clear c18
         obtain ⟨y374, hy374⟩ : ∃ y_ : List Int, y_ = (List.replicate (ji16 : Int).toNat 0) := ⟨_, rfl⟩
         replace H : (impl_PolyDivide.l0 kj2 t366 t369 t373 y374) = some (r1, r2) := by first | (rw [hy374]; with_reducible exact H) | (have H2_ := (Option.bind_some _ _).symm.trans H; rw [hy374]; with_reducible exact H2_) | (have H2_ := (Option.bind_some _ _).symm.trans H; with_reducible exact H2_) | with_reducible exact H | (rw [hy374]; exact H) | exact H
         have Ny374 := Aside0.mk hy374
         clear hy374
         have H' := Aside0.mk H
         clear H
         go_wp2_with (first | (refine gC (some 23) Try.func20 #[.slice A0 l0.length c0] ?_; (with_reducible refine (impl_PolyTrim.calls kj2 _ _ l0 t366 _ ?side1 ?side2 A6.out).mono ?_); (case side1 => exact cP (Kd.C_below HR0.out HB.out)); (case side2 => exact HC0.out); rintro e w19 ⟨v367, rfl, ho0, hb⟩; refine ⟨_, rfl, ?_⟩; have HO368 := Aside0.mk (Kd.R_lower ho0 (below_size (bZ HB))); replace HB := bS HB hb; (try clear hb); (try clear ho0)) | (refine gC (some 25) Try.func20 #[.slice A1 l1.length c1] ?_; (with_reducible refine (impl_PolyTrim.calls kj2 _ _ l1 t369 _ ?side1 ?side2 A7.out).mono ?_); (case side1 => exact cP (Kd.C_below HR1.out HB.out)); (case side2 => exact HC1.out); rintro e w20 ⟨v370, rfl, ho0, hb⟩; refine ⟨_, rfl, ?_⟩; have HO371 := Aside0.mk (Kd.R_lower (Kd.R_new' ho0 (Kd.R_lt (rP HO368))) (below_size (bZ HB))); replace HO368 := Aside0.mk (Kd.R_elder' (rP HO368) (Kd.R_base ho0) hb); replace HB := bS HB hb; (try clear hb); (try clear ho0); obtain ⟨Ao21, co21, eo21⟩ := Kd.R_slice HO371.out; subst eo21; have p372 : 0 ≤ ((ji12) : Int) := of_decide_eq_true (by first | (with_reducible assumption) | assumption); have q372 : (ji12) < (t369.length : Int) := of_decide_eq_true (by first | (with_reducible assumption) | assumption); obtain ⟨ad372, e372, hx372_0⟩ := Kd.at_int (Kd.R_reads' HO371.out).2.2 (ji12) p372 q372; cases e372; replace p372 := eq_true p372; replace q372 := eq_true q372) | ((with_reducible refine gate_callee (f := 73) rfl ?_); refine goesL_ (some 36) rfl rfl Try.func73 (by kernel_rfl) rfl #[.int .i64 (rd t369 (ji12))] rfl (by (try simp only [List.map_toArray, List.map_cons, List.map_nil]); first | done | (simp only [hji12]; rfl) | rfl | (simp only [List.length_drop, List.length_take]; rfl)) ?_; (with_reducible refine (impl_ScInv.calls kj2 (rd t369 (ji12)) t373 _ A15.out).mono ?_); rintro e w' ⟨rfl, ⟨nd, rfl⟩⟩; refine ⟨_, rfl, ?_⟩; obtain ⟨Ao22, co22, eo22⟩ := Kd.R_slice HO368.out; subst eo22) | ((with_reducible refine gate_dst (N := 44) rfl ?_); (try (refine gate_guard (by rfl) ?_; dsimp only)); refine Kd.R_make (Kd.int .i64) _ 3 rfl (N := 44) rfl 22 _ _ rfl ji16 rfl rfl Try.underlying22 (.int .i64 0) 8 info3 rfl (by decide) (by omega) 0 (ok := fun _ => True) (okp := fun _ => True) rfl (fun _ hk => hk) trivial (of_decide_eq_true (by first | (with_reducible assumption) | assumption)) (Nat.le_trans (Nat.mul_le_mul_right _ (of_decide_eq_true (by first | (with_reducible assumption) | assumption) : ji16.toNat ≤ 35184372088832)) (by omega)) (Below.refl _ _) (Nat.le_refl _) ?_; intro v375 w23 ho24 hb hg_ hnew_; clear hg_ hnew_; (first | rw [← Ny374.out] at ho24 | (simp only [Int.reduceToNat] at ho24; rw [← Ny374.out] at ho24)); have HO376 := Aside0.mk (Kd.R_lower (Kd.R_new' (Kd.R_new' ho24 (Kd.R_lt (rP HO368))) (Kd.R_lt (rP HO371))) (below_size (bZ HB))); replace HO368 := Aside0.mk (Kd.R_elder' (rP HO368) (Kd.R_base ho24) hb); replace HO371 := Aside0.mk (Kd.R_elder' (rP HO371) (Kd.R_base ho24) hb); replace HB := bS HB hb; clear hb ho24))
         go_loopg [6] kj2 (fun kq v6 w' => ∃ (x6_2 : List Int) (x7_2 : List Int) (x9_2 : List Int), Aside0 (impl_PolyDivide.l0 kq x6_2 x7_2 t373 x9_2 = some (r1, r2)) ∧ Aside0 (kq ≤ kj2) ∧ Aside0 (Kd.R (Kd.int .i64) 3 w' w.heap.size (fun k_ => some k_ ≠ ((.slice (some ad372) t369.length co21) : Value).ownBlock ∧ some k_ ≠ (v375 : Value).ownBlock) v6 x6_2) ∧ Aside0 (Kd.R (Kd.int .i64) 3 w' w.heap.size (fun k_ => some k_ ≠ (v6 : Value).ownBlock ∧ some k_ ≠ (v375 : Value).ownBlock) (.slice (some ad372) t369.length co21) x7_2) ∧ Aside0 (Kd.R (Kd.int .i64) 3 w' w.heap.size (fun k_ => some k_ ≠ (v6 : Value).ownBlock ∧ some k_ ≠ ((.slice (some ad372) t369.length co21) : Value).ownBlock) v375 x9_2) ∧ Aside0 (Below w.heap.size w w'))
         case atStart => exact ⟨(t366), (t369), (y374), H', ⟨Nat.le_refl _⟩, ⟨by (with_reducible repeat (first | apply Kd.R_alloc | apply Kd.R_drewN | apply Kd.R_drew)); exact Kd.R_mono HO368.out (fun _ hk => ⟨hk.1.2, hk.2⟩)⟩, ⟨by (with_reducible repeat (first | apply Kd.R_alloc | apply Kd.R_drewN | apply Kd.R_drew)); exact Kd.R_mono HO371.out (fun _ hk => ⟨hk.1.2, hk.2⟩)⟩, ⟨by (with_reducible repeat (first | apply Kd.R_alloc | apply Kd.R_drewN | apply Kd.R_drew)); exact Kd.R_mono HO376.out (fun _ hk => ⟨hk.1.2, hk.2⟩)⟩, ⟨bZ HB⟩⟩
         case round =>
          clear H'
          try clear c1
          try clear c2
          try clear p2
          try clear c3
          try clear p3
          try clear q3
          try clear hx3
          try clear c4
          try clear c4b0
          try clear c4b1
          try clear c5
          try clear p6
          try clear c7
          try clear c8
          try clear c8b0
          try clear c8b1
          try clear c8b2
          try clear c13
          try clear c13b0
          try clear c14
          try clear c14b0
          try clear c17
          try clear c17b0
          try clear c17b1
          try clear c18
          try clear c18b0
          try clear c18b1
          try clear c20
          try clear hx372_0
          try clear p2
          try clear p372
          try clear q372
          obtain ⟨x6_2, x7_2, x9_2, HA, HK2, HO_6, HO_7, HO_9, HB⟩ := hrel
          have hl7_2 := (Kd.R_reads' HO_7.out).1
          rw [hl7_2] at HO_7
          (try simp only [hl7_2])
          (try simp only [hl7_2] at HO_6)
          (try simp only [hl7_2] at HO_9)
          cases gk with
          | zero => exact absurd HA.out (by simp [impl_PolyDivide.l0])
          | succ k2 =>
           have H := HA.out
           clear HA
           simp only [impl_PolyDivide.l0] at H
           by_cases c25 : (x6_2.length : Int) ≥ (x7_2.length : Int)
           ·rw [if_pos c25] at H
            have c25b0 := decide_eq_true c25
            have c25b1 : decide (x7_2.length ≤ x6_2.length) = true := decide_eq_true (Int.ofNat_le.mp c25)
            clear c25
            obtain ⟨ji26, hji26⟩ : ∃ j_ : Int, (wrap64 ((x6_2.length : Int) - 1)) = j_ := ⟨_, rfl⟩
            replace H : (if 0 ≤ (ji26) then (if (ji26) < (x6_2.length : Int) then ((impl_ScMul.f (rd x6_2 (ji26)) t373).bind fun t381 => (if 0 ≤ (wrap64 ((x6_2.length : Int) - (x7_2.length : Int))) then (if (wrap64 ((x6_2.length : Int) - (x7_2.length : Int))) < (x9_2.length : Int) then (impl_PolyDivide.l1 k2 x6_2 x7_2 t373 (x9_2.set ((wrap64 ((x6_2.length : Int) - (x7_2.length : Int))) : Int).toNat t381) (wrap64 ((x6_2.length : Int) - (x7_2.length : Int))) t381 x7_2 (x7_2.length : Int) 0) else (none)) else (none))) else (none)) else (none)) = some (r1, r2) := by first | (rw [hji26] at H; exact H) | (simp only [hji26] at H ⊢; exact H)
            have hji26w : (IntKind.i64.wrap ((x6_2.length : Int) - 1)) = ji26 := (i64_w _).trans hji26
            by_cases c27 : 0 ≤ (ji26)
            ·rw [if_pos c27] at H
             have c27b0 := decide_eq_true c27
             clear c27
             by_cases c28 : (ji26) < (x6_2.length : Int)
             ·rw [if_pos c28] at H
              have c28b0 := decide_eq_true c28
              clear c28
              replace H := Option.bind_eq_some_iff.mp H
              obtain ⟨t381, A290, H⟩ := H
              have A29 := Aside0.mk A290
              clear A290
              obtain ⟨ji30, hji30⟩ : ∃ j_ : Int, (wrap64 ((x6_2.length : Int) - (x7_2.length : Int))) = j_ := ⟨_, rfl⟩
              replace H : (if 0 ≤ (ji30) then (if (ji30) < (x9_2.length : Int) then (impl_PolyDivide.l1 k2 x6_2 x7_2 t373 (x9_2.set ((ji30) : Int).toNat t381) ji30 t381 x7_2 (x7_2.length : Int) 0) else (none)) else (none)) = some (r1, r2) := by first | (rw [hji30] at H; exact H) | (simp only [hji30] at H ⊢; exact H)
              (try rw [hji30] at A29)
              have hji30w : (IntKind.i64.wrap ((x6_2.length : Int) - (x7_2.length : Int))) = ji30 := (i64_w _).trans hji30
              by_cases c31 : 0 ≤ (ji30)
              ·rw [if_pos c31] at H
               have c31b0 := decide_eq_true c31
               clear c31
               by_cases c32 : (ji30) < (x9_2.length : Int)
               ·rw [if_pos c32] at H
                have c32b0 := decide_eq_true c32
                clear c32
                obtain ⟨y382, hy382⟩ : ∃ y_ : List Int, y_ = (x9_2.set ((ji30) : Int).toNat t381) := ⟨_, rfl⟩
                replace H : (impl_PolyDivide.l1 k2 x6_2 x7_2 t373 y382 ji30 t381 x7_2 (x7_2.length : Int) 0) = some (r1, r2) := by first | (rw [hy382]; with_reducible exact H) | (have H2_ := (Option.bind_some _ _).symm.trans H; rw [hy382]; with_reducible exact H2_) | (have H2_ := (Option.bind_some _ _).symm.trans H; with_reducible exact H2_) | with_reducible exact H | (rw [hy382]; exact H) | exact H
                have Ny382 := Aside0.mk hy382
                clear hy382
                have H' := Aside0.mk H
                clear H
                obtain ⟨Ao34, co34, eo34⟩ := Kd.R_slice HO_6.out
                subst eo34
                have p380 : 0 ≤ ((ji26) : Int) := of_decide_eq_true (by first | (with_reducible assumption) | assumption)
                have q380 : (ji26) < (x6_2.length : Int) := of_decide_eq_true (by first | (with_reducible assumption) | assumption)
                obtain ⟨ad380, e380, hx380_0⟩ := Kd.at_int (Kd.R_reads' HO_6.out).2.2 (ji26) p380 q380
                cases e380
                obtain ⟨gx_, cx_, ex_, _⟩ := Kd.R_form HO_6.out (by omega)
                obtain rfl : ad380 = ⟨gx_, 0, none⟩ := (by injection ex_ with h_ _ _; injection h_)
                clear ex_
                (try simp only [add_plain] at hx380_0)
                replace p380 := eq_true p380
                replace q380 := eq_true q380
                go_wp2_with (first | ((with_reducible refine gate_callee (f := 49) rfl ?_); refine goesL_ (some 62) rfl rfl Try.func49 (by kernel_rfl) rfl #[.int .i64 (rd x6_2 (ji26)), .int .i64 t373] rfl (by (try simp only [List.map_toArray, List.map_cons, List.map_nil]); first | done | (simp only [hji26]; rfl) | rfl | (simp only [List.length_drop, List.length_take]; rfl)) ?_; (with_reducible refine (impl_ScMul.calls (rd x6_2 (ji26)) t373 t381 _ A29.out).mono ?_); rintro e w' ⟨rfl, ⟨nd, rfl⟩⟩; refine ⟨_, rfl, ?_⟩; (try simp only [World.drewN_drewN]); (try (rw [drewN_self wr]; generalize hq_ : World.drewN wr _ = wr; replace HO_6 : Aside0 (Kd.R (Kd.int .i64) 3 wr w.heap.size (fun k_ => some k_ ≠ (.slice (some ad372) x7_2.length co21 : Value).ownBlock ∧ some k_ ≠ (v375 : Value).ownBlock) (.slice (some (⟨gx_, 0, none⟩ : Addr)) x6_2.length co34) x6_2) := ⟨by rw [← hq_]; exact (rP HO_6)⟩; replace HO_7 : Aside0 (Kd.R (Kd.int .i64) 3 wr w.heap.size (fun k_ => some k_ ≠ (.slice (some (⟨gx_, 0, none⟩ : Addr)) x6_2.length co34 : Value).ownBlock ∧ some k_ ≠ (v375 : Value).ownBlock) (.slice (some ad372) x7_2.length co21) x7_2) := ⟨by rw [← hq_]; exact (rP HO_7)⟩; replace HO_9 : Aside0 (Kd.R (Kd.int .i64) 3 wr w.heap.size (fun k_ => some k_ ≠ (.slice (some (⟨gx_, 0, none⟩ : Addr)) x6_2.length co34 : Value).ownBlock ∧ some k_ ≠ (.slice (some ad372) x7_2.length co21 : Value).ownBlock) v375 x9_2) := ⟨by rw [← hq_]; exact (rP HO_9)⟩; replace HB : Aside0 (Below w.heap.size w wr) := ⟨by rw [← hq_]; exact (bZ HB)⟩; clear hq_)); have p33 : 0 ≤ ((ji30) : Int) := of_decide_eq_true (by first | (with_reducible assumption) | assumption); have q33 : ((ji30) : Int) < ((x9_2.length : Int) : Int) := of_decide_eq_true (by first | (with_reducible assumption) | assumption); obtain ⟨go33, co33, eo33, gb33, gl33, cl33, HG33⟩ := Kd.R_form HO_9.out (by omega); (first | cases eo33 | (injection eo33 with ea_ en_ ec_; (first | subst ea_ | (injection ea_ with ea_; subst ea_)); subst ec_; clear en_)); have GB33 := Aside0.mk gb33; have GG33 := Aside0.mk HG33; clear gb33 gl33 HG33; obtain ⟨hx33_0, hf33_0⟩ := Kd.R_celln 0 HO_9.out ((ji30) : Int) p33 q33; replace p33 := eq_true p33; replace q33 := eq_true q33; obtain ⟨hy35_, hz35_⟩ := Kd.R_celln 0 HO_9.out ((ji30) : Int) (of_decide_eq_true (by first | (with_reducible assumption) | assumption)) (of_decide_eq_true (by first | (with_reducible assumption) | assumption)); have HP35 := Kd.R_putg HO_9.out ((ji30) : Int) t381) | ((with_reducible refine gate_store (t := 3) (p := 66) rfl ?_); refine store_event (t := 3) (p := 66) (v := ?vo_w36) (w1 := (wr.setCell ⟨go33, ((ji30) : Int).toNat, none⟩ (.int .i64 t381))) ?hg ?ho ?hn ?hr ?_; (case ho => rfl); (case hg => rfl); (case hn => rfl); (case hr => first | (go_simp; done) | (go_simp; rfl)); intro w36 hw; have hg : wr.grownBy w36 (some go33) := (by rw [hw]; exact HP35.2); have hp_ : Kd.R (Kd.int .i64) 3 w36 w.heap.size (fun k_ => some k_ ≠ (.slice (some (⟨gx_, 0, none⟩ : Addr)) x6_2.length co34 : Value).ownBlock ∧ some k_ ≠ (.slice (some ad372) x7_2.length co21 : Value).ownBlock) (.slice (some ⟨go33, 0, none⟩) x9_2.length co33) y382 := (by rw [hw, Ny382.out]; exact HP35.1); clear HP35; replace HO_6 := Aside0.mk (Kd.R_after (v := (.slice (some ⟨go33, 0, none⟩) x9_2.length co33)) (v1 := (.slice (some ⟨go33, 0, none⟩) x9_2.length co33)) (ok := (fun k_ => some k_ ≠ (.slice (some ad372) x7_2.length co21 : Value).ownBlock)) (rP HO_6) hg (.inl rfl)); replace HO_7 := Aside0.mk (Kd.R_after (v := (.slice (some ⟨go33, 0, none⟩) x9_2.length co33)) (v1 := (.slice (some ⟨go33, 0, none⟩) x9_2.length co33)) (ok := (fun k_ => some k_ ≠ (.slice (some (⟨gx_, 0, none⟩ : Addr)) x6_2.length co34 : Value).ownBlock)) (rP HO_7) hg (.inl rfl)); replace HO_9 := Aside0.mk (hp_); replace HB := Aside0.mk ((by rw [hw]; exact below_set (HB.out) GB33.out : Below w.heap.size w w36)); clear hg hw hp_))
                go_loopg [69] k2 (fun kq v69 w' => ∃ (x6_3 : List Int) (x69_3 : Int), v69 = .int .i64 x69_3 ∧ Aside0 (impl_PolyDivide.l1 kq x6_3 x7_2 t373 y382 ji30 t381 x7_2 (x7_2.length : Int) x69_3 = some (r1, r2)) ∧ Aside0 (kq ≤ k2) ∧ Aside0 (Kd.R (Kd.int .i64) 3 w' w.heap.size (fun k_ => some k_ ≠ ((.slice (some ad372) x7_2.length co21) : Value).ownBlock ∧ some k_ ≠ ((.slice (some ⟨go33, 0, none⟩) x9_2.length co33) : Value).ownBlock ∧ some k_ ≠ ((.slice (some ad372) x7_2.length co21) : Value).ownBlock) (.slice (some (⟨gx_, 0, none⟩ : Addr)) x6_2.length co34) x6_3) ∧ Aside0 (Kd.R (Kd.int .i64) 3 w' w.heap.size (fun k_ => some k_ ≠ ((.slice (some (⟨gx_, 0, none⟩ : Addr)) x6_2.length co34) : Value).ownBlock ∧ some k_ ≠ ((.slice (some ⟨go33, 0, none⟩) x9_2.length co33) : Value).ownBlock) (.slice (some ad372) x7_2.length co21) x7_2) ∧ Aside0 (Kd.R (Kd.int .i64) 3 w' w.heap.size (fun k_ => some k_ ≠ ((.slice (some (⟨gx_, 0, none⟩ : Addr)) x6_2.length co34) : Value).ownBlock ∧ some k_ ≠ ((.slice (some ad372) x7_2.length co21) : Value).ownBlock ∧ some k_ ≠ ((.slice (some ad372) x7_2.length co21) : Value).ownBlock) (.slice (some ⟨go33, 0, none⟩) x9_2.length co33) y382) ∧ Aside0 (Kd.R (Kd.int .i64) 3 w' w.heap.size (fun k_ => some k_ ≠ ((.slice (some (⟨gx_, 0, none⟩ : Addr)) x6_2.length co34) : Value).ownBlock ∧ some k_ ≠ ((.slice (some ⟨go33, 0, none⟩) x9_2.length co33) : Value).ownBlock) (.slice (some ad372) x7_2.length co21) x7_2) ∧ Aside0 (Below w.heap.size w w'))
                case atStart => exact ⟨(x6_2), (0), rS, H', ⟨Nat.le_refl _⟩, ⟨by (try simp only [hl7_2]); (with_reducible repeat (first | apply Kd.R_alloc | apply Kd.R_drewN | apply Kd.R_drew)); exact Kd.R_mono HO_6.out (fun _ hk => ⟨hk.1, ⟨hk.2, hk.1⟩⟩)⟩, ⟨by (try simp only [hl7_2]); (with_reducible repeat (first | apply Kd.R_alloc | apply Kd.R_drewN | apply Kd.R_drew)); exact HO_7.out⟩, ⟨by (try simp only [hl7_2]); (with_reducible repeat (first | apply Kd.R_alloc | apply Kd.R_drewN | apply Kd.R_drew)); exact Kd.R_mono HO_9.out (fun _ hk => ⟨hk.1, ⟨hk.2, hk.2⟩⟩)⟩, ⟨by (try simp only [hl7_2]); (with_reducible repeat (first | apply Kd.R_alloc | apply Kd.R_drewN | apply Kd.R_drew)); exact HO_7.out⟩, ⟨bZ HB⟩⟩
                case round =>
                 clear H'
                 try clear c1
                 try clear c2
                 try clear p2
                 try clear c3
                 try clear p3
                 try clear q3
                 try clear hx3
                 try clear hf3
                 try clear c4
                 try clear c4b0
                 try clear c4b1
                 try clear c5
                 try clear p6
                 try clear c7
                 try clear c8
                 try clear c8b0
                 try clear c8b1
                 try clear c8b2
                 try clear c13
                 try clear c13b0
                 try clear c14
                 try clear c14b0
                 try clear c17
                 try clear c17b0
                 try clear c17b1
                 try clear c18
                 try clear c18b0
                 try clear c18b1
                 try clear c20
                 try clear c25
                 try clear c25b0
                 try clear c25b1
                 try clear c27
                 try clear c27b0
                 try clear c28
                 try clear c28b0
                 try clear c31
                 try clear c31b0
                 try clear c32
                 try clear c32b0
                 try clear p33
                 try clear q33
                 try clear hx33
                 try clear hf33
                 try clear hx33_0
                 try clear hx372_0
                 try clear hx380_0
                 try clear p2
                 try clear p3
                 try clear p33
                 try clear p372
                 try clear p380
                 try clear p6
                 try clear q3
                 try clear q33
                 try clear q372
                 try clear q380
                 obtain ⟨x6_3, x69_3, rfl, HA, HK3, HO_6, HO_7, HO_9, HO_67, HB⟩ := hrel
                 have hl6_3 := (Kd.R_reads' HO_6.out).1
                 rw [hl6_3] at HO_6
                 (try simp only [hl6_3])
                 (try simp only [hl6_3] at HO_7)
                 (try simp only [hl6_3] at HO_9)
                 (try simp only [hl6_3] at HO_67)
                 have hl9_3 := (Kd.R_reads' HO_9.out).1
                 rw [hl9_3] at HO_9
                 (try simp only [hl9_3])
                 (try simp only [hl9_3] at HO_6)
                 (try simp only [hl9_3] at HO_7)
                 (try simp only [hl9_3] at HO_67)
                 cases gk with
                 | zero => exact absurd HA.out (by simp [impl_PolyDivide.l1])
                 | succ k3 =>
                  have H := HA.out
                  clear HA
                  simp only [impl_PolyDivide.l1] at H
                  by_cases c37 : x69_3 < (x7_2.length : Int)
                  ·rw [if_pos c37] at H
                   have c37b0 := decide_eq_true c37
                   clear c37
                   by_cases c38 : 0 ≤ x69_3
                   ·rw [if_pos c38] at H
                    have c38b0 := decide_eq_true c38
                    clear c38
                    by_cases c39 : x69_3 < (x7_2.length : Int)
                    ·rw [if_pos c39] at H
                     have c39b0 := decide_eq_true c39
                     clear c39
                     obtain ⟨ji40, hji40⟩ : ∃ j_ : Int, (wrap64 (ji30 + x69_3)) = j_ := ⟨_, rfl⟩
                     replace H : (if 0 ≤ (ji40) then (if (ji40) < (x6_3.length : Int) then ((impl_ScMul.f (rd x7_2 x69_3) t381).bind fun t385 => ((impl_ScNeg.f t385).bind fun t386 => ((impl_ScAdd.f (rd x6_3 (ji40)) t386).bind fun t387 => (impl_PolyDivide.l1 k3 (x6_3.set ((ji40) : Int).toNat t387) x7_2 t373 y382 ji30 t381 x7_2 (x7_2.length : Int) (wrap64 (x69_3 + 1)))))) else (none)) else (none)) = some (r1, r2) := by first | (rw [hji40] at H; exact H) | (simp only [hji40] at H ⊢; exact H)
                     have hji40w : (IntKind.i64.wrap (ji30 + x69_3)) = ji40 := (i64_w _).trans hji40
                     by_cases c41 : 0 ≤ (ji40)
                     ·rw [if_pos c41] at H
                      have c41b0 := decide_eq_true c41
                      clear c41
                      by_cases c42 : (ji40) < (x6_3.length : Int)
                      ·rw [if_pos c42] at H
                       have c42b0 := decide_eq_true c42
                       clear c42
                       replace H := Option.bind_eq_some_iff.mp H
                       obtain ⟨t385, A430, H⟩ := H
                       have A43 := Aside0.mk A430
                       clear A430
                       replace H := Option.bind_eq_some_iff.mp H
                       obtain ⟨t386, A440, H⟩ := H
                       have A44 := Aside0.mk A440
                       clear A440
                       replace H := Option.bind_eq_some_iff.mp H
                       obtain ⟨t387, A450, H⟩ := H
                       have A45 := Aside0.mk A450
                       clear A450
                       obtain ⟨y388, hy388⟩ : ∃ y_ : List Int, y_ = (x6_3.set ((ji40) : Int).toNat t387) := ⟨_, rfl⟩
                       replace H : (impl_PolyDivide.l1 k3 y388 x7_2 t373 y382 ji30 t381 x7_2 (x7_2.length : Int) (wrap64 (x69_3 + 1))) = some (r1, r2) := by first | (rw [hy388]; with_reducible exact H) | (have H2_ := (Option.bind_some _ _).symm.trans H; rw [hy388]; with_reducible exact H2_) | (have H2_ := (Option.bind_some _ _).symm.trans H; with_reducible exact H2_) | with_reducible exact H | (rw [hy388]; exact H) | exact H
                       have Ny388 := Aside0.mk hy388
                       clear hy388
                       have H' := Aside0.mk H
                       clear H
                       have p383 : 0 ≤ (x69_3 : Int) := of_decide_eq_true (by first | (with_reducible assumption) | assumption)
                       have q383 : x69_3 < (x7_2.length : Int) := of_decide_eq_true (by first | (with_reducible assumption) | assumption)
                       obtain ⟨ad383, e383, hx383_0⟩ := Kd.at_int (Kd.R_reads' HO_67.out).2.2 x69_3 p383 q383
                       obtain rfl : ad372 = ad383 := (by injection e383)
                       replace p383 := eq_true p383
                       replace q383 := eq_true q383
                       try go_wp2
                       replace HO_6 := Aside0.mk (Kd.R_drew HO_6.out)
                       replace HO_7 := Aside0.mk (Kd.R_drew HO_7.out)
                       replace HO_9 := Aside0.mk (Kd.R_drew HO_9.out)
                       replace HO_67 := Aside0.mk (Kd.R_drew HO_67.out)
                       replace HB := Aside0.mk (below_drew1 HB.out)
                       have p384 : 0 ≤ ((ji40) : Int) := of_decide_eq_true (by first | (with_reducible assumption) | assumption)
                       have q384 : (ji40) < (x6_3.length : Int) := of_decide_eq_true (by first | (with_reducible assumption) | assumption)
                       obtain ⟨ad384, e384, hx384_0⟩ := Kd.at_int (Kd.R_reads' HO_6.out).2.2 (ji40) p384 q384
                       obtain rfl : (⟨gx_, 0, none⟩ : Addr) = ad384 := (by injection e384)
                       (try simp only [add_plain] at hx384_0)
                       replace p384 := eq_true p384
                       replace q384 := eq_true q384
                       refine start_ (n := 17) (S := fun w' => w'.cell? ⟨gx_, ((ji40)).toNat, none⟩ = some (.int .i64 (rd x6_3 (ji40)))) (ds := [16]) #[false, false, false, false, false, false, false, false, false, false, false, false, false, false, false, false, false] (by kernel_rfl) rfl rfl (hx384_0) (fun hHeld => ?_); refine with_tabW impl_PolyDivide.tab15 impl_PolyDivide.bits15 (fun HT_ HW_ => ?_)
                       generalize wr.drew = w47 at HO_6 HO_7 HO_9 HO_67 HB hx384_0 hHeld ⊢
                       refine pI 0 (some 74) HT_.out ?_
                       refine pI 1 (some 75) HT_.out ?_
                       refine pI 2 (some 76) HT_.out ?_
                       refine pI 3 (some 77) HT_.out ?_
                       refine pI 4 (some 78) HT_.out ?_
                       refine pI 5 (some 79) HT_.out ?_
                       refine pI 6 (some 80) HT_.out ?_
                       refine pI 7 (some 81) HT_.out ?_
                       refine pI 8 (some 82) HT_.out ?_
                       refine pI 10 (some 84) HT_.out ?_
                       refine pI 11 (some 85) HT_.out ?_
                       refine tI1 9 (some 83) HT_.out HW_.out hHeld ?_
                       refine oI 12 (some 86) HT_.out (fun K hK => ?_)
                       refine gO Try.func49 #[.int .i64 (rd x7_2 x69_3), .int .i64 t381] ?_
                       with_reducible refine (impl_ScMul.calls (rd x7_2 x69_3) t381 t385 _ A43.out).mono ?_
                       rintro e w' ⟨rfl, ⟨nd, rfl⟩⟩
                       refine ⟨_, rfl, ?_⟩
                       refine hK.out _ _ (hHeld) (fun hHeld => ?_)
                       clear hK K
                       refine nO (some 86) ?_
                       refine oI 13 (some 87) HT_.out (fun K hK => ?_)
                       refine gO Try.func74 #[.int .i64 t385] ?_
                       with_reducible refine (impl_ScNeg.calls t385 t386 _ A44.out).mono ?_
                       rintro e w' ⟨rfl, ⟨nd, rfl⟩⟩
                       refine ⟨_, rfl, ?_⟩
                       refine hK.out _ _ (hHeld) (fun hHeld => ?_)
                       clear hK K
                       refine nO (some 87) ?_
                       refine oI 14 (some 88) HT_.out (fun K hK => ?_)
                       refine goes_ Try.func50 (by kernel_rfl) rfl #[.int .i64 (rd x6_3 (ji40)), .int .i64 t386] (by rfl) rfl rfl (by (try simp only [List.map_toArray, List.map_cons, List.map_nil]); first | done | (simp only [hji40]; rfl) | rfl | (simp only [List.length_drop, List.length_take]; rfl)) ?_
                       with_reducible refine (impl_ScAdd.calls (rd x6_3 (ji40)) t386 t387 _ A45.out).mono ?_
                       rintro e w' ⟨rfl, ⟨nd, rfl⟩⟩
                       refine ⟨_, rfl, ?_⟩
                       have p46 : 0 ≤ ((ji40) : Int) := of_decide_eq_true (by first | (with_reducible assumption) | assumption)
                       have q46 : ((ji40) : Int) < ((x6_3.length : Int) : Int) := of_decide_eq_true (by first | (with_reducible assumption) | assumption)
                       obtain ⟨go46, co46, eo46, gb46, gl46, cl46, HG46⟩ := Kd.R_form HO_6.out (by omega)
                       (first | cases eo46 | (injection eo46 with ea_ en_ ec_; (first | subst ea_ | (injection ea_ with ea_; subst ea_)); subst ec_; clear en_))
                       have GB46 := Aside0.mk gb46
                       have GG46 := Aside0.mk HG46
                       clear gb46 gl46 HG46
                       (first | simp only [add_plain] at hx380_0 | skip)
                       (first | simp only [add_plain] at hx384_0 | skip)
                       obtain ⟨hx46_0, hf46_0⟩ := Kd.R_celln 0 HO_6.out ((ji40) : Int) p46 q46
                       replace p46 := eq_true p46
                       replace q46 := eq_true q46
                       have HP48 := Kd.R_putn HO_6.out ((ji40) : Int) t387
                       rw [← Ny388.out] at HP48
                       have HQ48 := Aside0.mk HP48
                       clear HP48
                       refine hK.out _ _ (hHeld) (fun hHeld => ?_)
                       clear hK K
                       refine nO (some 88) ?_
                       refine pI 15 (some 89) HT_.out ?_
                       refine last_ (i := 16) (N := none) #[true, true, true, true, true, true, true, true, true, true, true, true, true, true, true, true, true] rfl rfl (one_of HT_.out (by kernel_rfl)) (by decide) (fun K hK => ?_)
                       refine skip_ (w1 := ?_) (by rfl) rfl ?_ ?_
                       rotate_left
                       ·go_simp
                        rfl
                       refine hK.out _ _ ?_
                       clear hK K
                       refine done_ (done_of HT_.out (by kernel_rfl)) ?_
                       try go_wp2
                       (try simp only [← hl6_3, ← hl9_3])
                       go_roundg k3
                       case measure => have := HJ2.out; have := HK2.out; have := HK3.out; omega
                       case rel => exact ⟨(y388), (wrap64 (x69_3 + 1)), rS, H', ⟨by have := HJ2.out; have := HK2.out; have := HK3.out; omega⟩, ⟨by (try simp only [hl7_2]); (try simp only [hl6_3]); (try simp only [hl9_3]); (with_reducible repeat (first | apply Kd.R_alloc | apply Kd.R_drewN | apply Kd.R_drew)); exact HQ48.out⟩, ⟨by (try simp only [hl7_2]); (try simp only [hl6_3]); (try simp only [hl9_3]); (with_reducible repeat (first | apply Kd.R_alloc | apply Kd.R_drewN | apply Kd.R_drew)); exact Kd.R_mono (Kd.R_far (p := ⟨gx_, ((ji40) : Int).toNat, none⟩) (Kd.R_mono HO_7.out (fun k_ hk => (⟨hk, fun e_ => hk.1 (by rw [e_]; rfl)⟩ : _ ∧ k_ ≠ gx_))) (fun _ hk => hk.2) (.int .i64 t387)) (fun _ hk => ⟨hk.1.1, hk.1.2⟩)⟩, ⟨by (try simp only [hl7_2]); (try simp only [hl6_3]); (try simp only [hl9_3]); (with_reducible repeat (first | apply Kd.R_alloc | apply Kd.R_drewN | apply Kd.R_drew)); exact Kd.R_mono (Kd.R_far (p := ⟨gx_, ((ji40) : Int).toNat, none⟩) (Kd.R_mono HO_9.out (fun k_ hk => (⟨hk, fun e_ => hk.1 (by rw [e_]; rfl)⟩ : _ ∧ k_ ≠ gx_))) (fun _ hk => hk.2) (.int .i64 t387)) (fun _ hk => ⟨hk.1.1, ⟨hk.1.2.1, hk.1.2.2⟩⟩)⟩, ⟨by (try simp only [hl7_2]); (try simp only [hl6_3]); (try simp only [hl9_3]); (with_reducible repeat (first | apply Kd.R_alloc | apply Kd.R_drewN | apply Kd.R_drew)); exact Kd.R_mono (Kd.R_far (p := ⟨gx_, ((ji40) : Int).toNat, none⟩) (Kd.R_mono HO_67.out (fun k_ hk => (⟨hk, fun e_ => hk.1 (by rw [e_]; rfl)⟩ : _ ∧ k_ ≠ gx_))) (fun _ hk => hk.2) (.int .i64 t387)) (fun _ hk => ⟨hk.1.1, hk.1.2⟩)⟩, ⟨by repeat (first | (with_reducible first | exact HB.out | apply below_alloc | apply pw_below_drewN | apply below_drew1 | refine below_set ?_ GB46.out) | exact HB.out)⟩⟩
                      ·rw [if_neg c42] at H
                       exact absurd H (by simp)
                     ·rw [if_neg c41] at H
                      exact absurd H (by simp)
                    ·rw [if_neg c39] at H
                     exact absurd H (by simp)
                   ·rw [if_neg c38] at H
                    exact absurd H (by simp)
                  ·rw [if_neg c37] at H
                   have c37b0 := decide_eq_false c37
                   clear c37
                   replace H := Option.bind_eq_some_iff.mp H
                   obtain ⟨t389, A490, H⟩ := H
                   have A49 := Aside0.mk A490
                   clear A490
                   have H' := Aside0.mk H
                   clear H
                   go_wp2_with (first | (refine gC (some 92) Try.func20 #[.slice (some (⟨gx_, 0, none⟩ : Addr)) x6_3.length co34] ?_; (with_reducible refine (impl_PolyTrim.calls k3 _ _ x6_3 t389 _ ?side1 ?side2 A49.out).mono ?_); (case side1 => exact cP ((Kd.R_reads' HO_6.out).2.2)); (case side2 => exact (Kd.R_reads' HO_6.out).2.1); rintro e w50 ⟨v390, rfl, ho0, hb⟩; refine ⟨_, rfl, ?_⟩; have HO391 := Aside0.mk (Kd.R_lower (Kd.R_new' (Kd.R_new' (Kd.R_new' (Kd.R_new' ho0 (Kd.R_lt (rP HO_6))) (Kd.R_lt (rP HO_7))) (Kd.R_lt (rP HO_9))) (Kd.R_lt (rP HO_67))) (below_size (bZ HB))); replace HO_6 := Aside0.mk (Kd.R_elder' (rP HO_6) (Kd.R_base ho0) hb); replace HO_7 := Aside0.mk (Kd.R_elder' (rP HO_7) (Kd.R_base ho0) hb); replace HO_9 := Aside0.mk (Kd.R_elder' (rP HO_9) (Kd.R_base ho0) hb); replace HO_67 := Aside0.mk (Kd.R_elder' (rP HO_67) (Kd.R_base ho0) hb); replace HB := bS HB hb; (try clear hb); (try clear ho0)))
                   (try simp only [← hl7_2, ← hl6_3, ← hl9_3])
                   go_roundg k3
                   case measure => have := HJ2.out; have := HK2.out; have := HK3.out; omega
                   case rel => exact ⟨(t389), (x7_2), (y382), H', ⟨by have := HJ2.out; have := HK2.out; have := HK3.out; omega⟩, ⟨by (try simp only [hl7_2]); (try simp only [hl6_3]); (try simp only [hl9_3]); (with_reducible repeat (first | apply Kd.R_alloc | apply Kd.R_drewN | apply Kd.R_drew)); exact Kd.R_mono HO391.out (fun _ hk => ⟨hk.1.1.2, hk.1.2⟩)⟩, ⟨by (try simp only [hl7_2]); (try simp only [hl6_3]); (try simp only [hl9_3]); (with_reducible repeat (first | apply Kd.R_alloc | apply Kd.R_drewN | apply Kd.R_drew)); exact Kd.R_mono HO_7.out (fun _ hk => ⟨hk.2, hk.1.2⟩)⟩, ⟨by (try simp only [hl7_2]); (try simp only [hl6_3]); (try simp only [hl9_3]); (with_reducible repeat (first | apply Kd.R_alloc | apply Kd.R_drewN | apply Kd.R_drew)); exact Kd.R_mono HO_9.out (fun _ hk => ⟨hk.2, hk.1.2.1⟩)⟩, ⟨bZ HB⟩⟩
               ·rw [if_neg c32] at H
                exact absurd H (by simp)
              ·rw [if_neg c31] at H
               exact absurd H (by simp)
             ·rw [if_neg c28] at H
              exact absurd H (by simp)
            ·rw [if_neg c27] at H
             exact absurd H (by simp)
           ·rw [if_neg c25] at H
            have c25b0 := decide_eq_false c25
            have c25b1 : decide (x7_2.length ≤ x6_2.length) = false := decide_eq_false (fun h => c25 (Int.ofNat_le.mpr h))
            clear c25
            replace H := Option.bind_eq_some_iff.mp H
            obtain ⟨t377, A510, H⟩ := H
            have A51 := Aside0.mk A510
            clear A510
            simp only [Option.some.injEq, Prod.mk.injEq] at H
            obtain ⟨rfl, rfl⟩ := H
            obtain ⟨Ao52, co52, eo52⟩ := Kd.R_slice HO_6.out
            subst eo52
            obtain ⟨Ao53, co53, eo53⟩ := Kd.R_slice HO_9.out
            subst eo53
            go_wp2_with (first | (refine gC (some 94) Try.func20 #[.slice Ao53 x9_2.length co53] ?_; (with_reducible refine (impl_PolyTrim.calls k2 _ _ x9_2 t377 _ ?side1 ?side2 A51.out).mono ?_); (case side1 => exact cP ((Kd.R_reads' HO_9.out).2.2)); (case side2 => exact (Kd.R_reads' HO_9.out).2.1); rintro e w54 ⟨v378, rfl, ho0, hb⟩; refine ⟨_, rfl, ?_⟩; have HO379 := Aside0.mk (Kd.R_lower (Kd.R_new' (Kd.R_new' (Kd.R_new' ho0 (Kd.R_lt (rP HO_6))) (Kd.R_lt (rP HO_7))) (Kd.R_lt (rP HO_9))) (below_size (bZ HB))); replace HO_6 := Aside0.mk (Kd.R_elder' (rP HO_6) (Kd.R_base ho0) hb); replace HO_7 := Aside0.mk (Kd.R_elder' (rP HO_7) (Kd.R_base ho0) hb); replace HO_9 := Aside0.mk (Kd.R_elder' (rP HO_9) (Kd.R_base ho0) hb); replace HB := bS HB hb; (try clear hb); (try clear ho0)))
            go_ret2
            exact ⟨_, _, by first | rfl | (simp [errW_none, errW_some] <;> rfl) | (simp only [← hji12, ← hji16]; first | rfl | (simp [errW_none, errW_some] <;> rfl)) | (simp [*, errW_none, errW_some] <;> rfl), by (with_reducible repeat (first | apply Kd.R_alloc | apply Kd.R_drewN | apply Kd.R_drew)); exact Kd.R_mono HO379.out (fun _ hk => hk.1.1.2), by (with_reducible repeat (first | apply Kd.R_alloc | apply Kd.R_drewN | apply Kd.R_drew)); exact Kd.R_mono HO_6.out (fun _ hk => hk.2), bZ HB⟩
        ·rw [if_neg c18] at H
         exact absurd H (by simp)
       ·rw [if_neg c17] at H
        exact absurd H (by simp)
      ·rw [if_neg c14] at H
       exact absurd H (by simp)
     ·rw [if_neg c13] at H
      exact absurd H (by simp)
end Go.Proofs.Ytcnejiflpioaiaa.Pf
end
section
namespace Go.Proofs.Ytcnejiflpioaiaa.Pf
open Go.RowKit Go.Proofs.YtcnejiflpioaiaaW.PrintWords Go.Proofs.YtcnejiflpioaiaaW.PrintLast Go.Proofs.YtcnejiflpioaiaaW.PrintMore
attribute [local go_sem] max2_int min2_int max_two min_two max_three min_three max_four min_four   -- for this text's walks alone
set_option linter.unusedVariables false
set_option linter.unusedSimpArgs false
def impl_scaled.l0 : Nat → Int → List Int → List Int → Int → Int → Option (List Int)
 | 0, _, _, _, _, _ => none
 | k + 1, x1, x5, x11, x12, x13 => if x13 < x12 then (if 0 ≤ x13 then (if x13 < (x11.length : Int) then ((impl_ScMul.f (rd x11 x13) x1).bind fun t396 => (if x13 < (x5.length : Int) then (impl_scaled.l0 k x1 (x5.set (x13 : Int).toNat t396) x11 x12 (wrap64 (x13 + 1))) else (none))) else (none)) else (none)) else (some x5)
def impl_scaled.f (k : Nat) (l0 : List Int) (a1 : Int) : Option (List Int) := if 0 ≤ (l0.length : Int) then (if ((l0.length : Int) : Int).toNat ≤ 35184372088832 then (impl_scaled.l0 k a1 (List.replicate ((l0.length : Int) : Int).toNat 0) l0 (l0.length : Int) 0) else (none)) else (none)
set_option maxHeartbeats 8000000 in
set_option maxRecDepth 100000 in
theorem impl_scaled.calls (k : Nat) (A0 : Option Addr) (c0 : Nat) (l0 : List Int) (a1 : Int) (r : List Int) (w : World) (hr0 : Kd.C (Kd.int .i64) w A0 l0.length l0) (hc0 : l0.length ≤ c0) (h : impl_scaled.f k l0 a1 = some r) :
  Calls Try.prog 69 #[.slice A0 l0.length c0, .int .i64 a1] w fun e w' => ∃ v0_ : Value, e = .returned (v0_) ∧ Kd.R (Kd.int .i64) 3 w' w.heap.size (fun _ => True) v0_ r ∧ Below w.heap.size w w' := by
 have HR0 := Aside0.mk hr0
 have HC0 := Aside0.mk hc0
 clear hr0 hc0
 have HB := Aside0.mk (Below.refl w.heap.size w)
 have H : (if 0 ≤ (l0.length : Int) then (if ((l0.length : Int) : Int).toNat ≤ 35184372088832 then (impl_scaled.l0 k a1 (List.replicate ((l0.length : Int) : Int).toNat 0) l0 (l0.length : Int) 0) else (none)) else (none)) = some r := h
 clear h
 by_cases c3 : 0 ≤ (l0.length : Int)
 ·rw [if_pos c3] at H
  have c3b0 := eq_true c3
  have c3b1 := decide_eq_true c3
  clear c3
  by_cases c4 : ((l0.length : Int) : Int).toNat ≤ 35184372088832
  ·rw [if_pos c4] at H
   have c4b0 := eq_true c4
   have c4b1 := decide_eq_true c4
   clear c4
   obtain ⟨y392, hy392⟩ : ∃ y_ : List Int, y_ = (List.replicate ((l0.length : Int) : Int).toNat 0) := ⟨_, rfl⟩
   replace H : (impl_scaled.l0 k a1 y392 l0 (l0.length : Int) 0) = some r := by first | (rw [hy392]; with_reducible exact H) | (have H2_ := (Option.bind_some _ _).symm.trans H; rw [hy392]; with_reducible exact H2_) | (have H2_ := (Option.bind_some _ _).symm.trans H; with_reducible exact H2_) | with_reducible exact H | (rw [hy392]; exact H) | exact H
   have Ny392 := Aside0.mk hy392
   clear hy392
   have H' := Aside0.mk H
   clear H
   go_enter Try.func69, Try.ntmps69
   go_wp2_with (first | ((with_reducible refine gate_dst (N := 10) rfl ?_); refine Kd.R_make (Kd.int .i64) _ 3 rfl (N := 10) rfl 22 _ _ rfl (l0.length : Int) rfl rfl Try.underlying22 (.int .i64 0) 8 info3 rfl (by decide) (by omega) 0 (ok := fun _ => True) (okp := fun _ => True) rfl (fun _ hk => hk) trivial (of_decide_eq_true (by first | (with_reducible assumption) | assumption)) (Nat.le_trans (Nat.mul_le_mul_right _ (of_decide_eq_true (by first | (with_reducible assumption) | assumption) : (l0.length : Int).toNat ≤ 35184372088832)) (by omega)) (Below.refl _ _) (Nat.le_refl _) ?_; intro v393 w5 ho6 hb hg_ hnew_; clear hg_ hnew_; (first | rw [← Ny392.out] at ho6 | (simp only [Int.reduceToNat] at ho6; rw [← Ny392.out] at ho6)); have HO394 := Aside0.mk (Kd.R_lower ho6 (below_size (bZ HB))); replace HB := bS HB hb; clear hb ho6))
   go_loopg [13] k (fun kq v13 w' => ∃ (x5_1 : List Int) (x13_1 : Int), v13 = .int .i64 x13_1 ∧ Aside0 (impl_scaled.l0 kq a1 x5_1 l0 (l0.length : Int) x13_1 = some r) ∧ Aside0 (kq ≤ k) ∧ Aside0 (Kd.R (Kd.int .i64) 3 w' w.heap.size (fun _ => True) v393 x5_1) ∧ Aside0 (Below w.heap.size w w'))
   case atStart => exact ⟨(y392), (0), rS, H', ⟨Nat.le_refl _⟩, ⟨rP HO394⟩, ⟨bZ HB⟩⟩
   case round =>
    clear H'
    try clear p2
    try clear c3
    try clear c3b0
    try clear c3b1
    try clear c4
    try clear c4b0
    try clear c4b1
    try clear c6
    obtain ⟨x5_1, x13_1, rfl, HA, HK1, HO_5, HB⟩ := hrel
    cases gk with
    | zero => exact absurd HA.out (by simp [impl_scaled.l0])
    | succ k1 =>
     have H := HA.out
     clear HA
     simp only [impl_scaled.l0] at H
     by_cases c7 : x13_1 < (l0.length : Int)
     ·rw [if_pos c7] at H
      have c7b0 := decide_eq_true c7
      clear c7
      by_cases c8 : 0 ≤ x13_1
      ·rw [if_pos c8] at H
       have c8b0 := decide_eq_true c8
       clear c8
       by_cases c9 : x13_1 < (l0.length : Int)
       ·rw [if_pos c9] at H
        have c9b0 := decide_eq_true c9
        clear c9
        replace H := Option.bind_eq_some_iff.mp H
        obtain ⟨t396, A100, H⟩ := H
        have A10 := Aside0.mk A100
        clear A100
        by_cases c11 : x13_1 < (x5_1.length : Int)
        ·rw [if_pos c11] at H
         have c11b0 := decide_eq_true c11
         clear c11
         obtain ⟨y397, hy397⟩ : ∃ y_ : List Int, y_ = (x5_1.set (x13_1 : Int).toNat t396) := ⟨_, rfl⟩
         replace H : (impl_scaled.l0 k1 a1 y397 l0 (l0.length : Int) (wrap64 (x13_1 + 1))) = some r := by first | (rw [hy397]; with_reducible exact H) | (have H2_ := (Option.bind_some _ _).symm.trans H; rw [hy397]; with_reducible exact H2_) | (have H2_ := (Option.bind_some _ _).symm.trans H; with_reducible exact H2_) | with_reducible exact H | (rw [hy397]; exact H) | exact H
         have Ny397 := Aside0.mk hy397
         clear hy397
         have H' := Aside0.mk H
         clear H
         have p395 : 0 ≤ (x13_1 : Int) := of_decide_eq_true (by first | (with_reducible assumption) | assumption)
         have q395 : x13_1 < (l0.length : Int) := of_decide_eq_true (by first | (with_reducible assumption) | assumption)
         obtain ⟨ad395, e395, hx395_0⟩ := Kd.at_int HR0.out x13_1 p395 q395
         cases e395
         replace hx395_0 := (hC HB hx395_0 :)
         replace p395 := eq_true p395
         replace q395 := eq_true q395
         go_wp2_with (first | (refine gC (some 22) Try.func49 #[.int .i64 (rd l0 x13_1), .int .i64 a1] ?_; (with_reducible refine (impl_ScMul.calls (rd l0 x13_1) a1 t396 _ A10.out).mono ?_); rintro e w' ⟨rfl, ⟨nd, rfl⟩⟩; refine ⟨_, rfl, ?_⟩; (try simp only [World.drewN_drewN]); (try (rw [drewN_self wr]; generalize hq_ : World.drewN wr _ = wr; replace HO_5 : Aside0 (Kd.R (Kd.int .i64) 3 wr w.heap.size (fun _ => True) v393 x5_1) := ⟨by rw [← hq_]; exact (rP HO_5)⟩; replace HB : Aside0 (Below w.heap.size w wr) := ⟨by rw [← hq_]; exact (bZ HB)⟩; clear hq_)); have p12 : 0 ≤ (x13_1 : Int) := of_decide_eq_true (by first | (with_reducible assumption) | assumption); have q12 : (x13_1 : Int) < ((x5_1.length : Int) : Int) := of_decide_eq_true (by first | (with_reducible assumption) | assumption); obtain ⟨go12, co12, eo12, gb12, gl12, cl12, HG12⟩ := Kd.R_form HO_5.out (by omega); (first | cases eo12 | (injection eo12 with ea_ en_ ec_; (first | subst ea_ | (injection ea_ with ea_; subst ea_)); subst ec_; clear en_)); have GB12 := Aside0.mk gb12; have GG12 := Aside0.mk HG12; clear gb12 gl12 HG12; obtain ⟨hx12_0, hf12_0⟩ := Kd.R_celln 0 HO_5.out (x13_1 : Int) p12 q12; replace p12 := eq_true p12; replace q12 := eq_true q12; obtain ⟨hy13_, hz13_⟩ := Kd.R_celln 0 HO_5.out (x13_1 : Int) (of_decide_eq_true (by first | (with_reducible assumption) | assumption)) (of_decide_eq_true (by first | (with_reducible assumption) | assumption)); have HP13 := Kd.R_putg HO_5.out (x13_1 : Int) t396) | ((with_reducible refine gate_store (t := 3) (p := 23) rfl ?_); refine store_event (t := 3) (p := 23) (v := ?vo_w14) (w1 := (wr.setCell ⟨go12, (x13_1 : Int).toNat, none⟩ (.int .i64 t396))) ?hg ?ho ?hn ?hr ?_; (case ho => rfl); (case hg => rfl); (case hn => rfl); (case hr => first | (go_simp; done) | (go_simp; rfl)); intro w14 hw; have hg : wr.grownBy w14 (some go12) := (by rw [hw]; exact HP13.2); have hp_ : Kd.R (Kd.int .i64) 3 w14 w.heap.size (fun _ => True) (.slice (some ⟨go12, 0, none⟩) x5_1.length co12) y397 := (by rw [hw, Ny397.out]; exact HP13.1); clear HP13; replace HO_5 := Aside0.mk (hp_); replace HB := Aside0.mk ((by rw [hw]; exact below_set (HB.out) GB12.out : Below w.heap.size w w14)); clear hg hw hp_))
         go_roundg k1
         case measure => have := HK1.out; omega
         case rel => exact ⟨(y397), (wrap64 (x13_1 + 1)), rS, H', ⟨by have := HK1.out; omega⟩, ⟨rP HO_5⟩, ⟨bZ HB⟩⟩
        ·rw [if_neg c11] at H
         exact absurd H (by simp)
       ·rw [if_neg c9] at H
        exact absurd H (by simp)
      ·rw [if_neg c8] at H
       exact absurd H (by simp)
     ·rw [if_neg c7] at H
      have c7b0 := decide_eq_false c7
      clear c7
      obtain rfl := Option.some.inj H
      go_wp2
      go_ret
      exact ⟨_, by first | rfl | (simp [errW_none, errW_some] <;> rfl) | (simp [*, errW_none, errW_some] <;> rfl), by (with_reducible repeat (first | apply Kd.R_alloc | apply Kd.R_drewN | apply Kd.R_drew)); exact HO_5.out, bZ HB⟩
  ·rw [if_neg c4] at H
   exact absurd H (by simp)
 ·rw [if_neg c3] at H
  exact absurd H (by simp)
def impl_Mixed.l0 : Nat → List (List Int) → List Int → List Int → Int → Int → Option (List Int)
 | 0, _, _, _, _, _ => none
 | k + 1, x0, x1, x5, x11, x12 => if x12 < x11 then (if 0 ≤ x12 then (if x12 < (x0.length : Int) then (if x12 < (x1.length : Int) then ((impl_scaled.f k (rd_L2 x0 x12) (rd x1 x12)).bind fun t400 => ((impl_PolyAdd.f k x5 t400).bind fun t403 => (impl_Mixed.l0 k x0 x1 t403 x11 (wrap64 (x12 + 1))))) else (none)) else (none)) else (none)) else (some x5)
def impl_Mixed.f (k : Nat) (l0 : List (List Int)) (l1 : List Int) : Option (List Int) := impl_Mixed.l0 k l0 l1 ([] : List Int) (mn (l0.length : Int) (l1.length : Int)) 0
def impl_Mixed.T5 : Bool × List (List Nat × List Nat) := (true, [([], []), ([], []), ([], []), ([1, 2], [1, 2]), ([3], [3]), ([], []), ([], []), ([5, 6], [5, 6]), ([7], [7]), ([4, 8], [4, 8]), ([0, 9, 9], [0, 9]), ([10, 10, 0, 1, 2, 3, 4, 5, 6, 7, 8, 9, 10], [0, 10])])
def impl_Mixed.B5 : List Nat := [0, 0, 0, 6, 14, 0, 0, 96, 224, 510, 1023, 2047]
theorem impl_Mixed.tab5 : rtab .any (opsOf Try.f42 5) = impl_Mixed.T5 := by kernel_rfl
theorem impl_Mixed.bits5 : waitsOk impl_Mixed.T5.2 impl_Mixed.B5 = true := by kernel_rfl
set_option maxHeartbeats 8000000 in
set_option maxRecDepth 100000 in
theorem impl_Mixed.calls (k : Nat) (A0 : Option Addr) (c0 : Nat) (l0 : List (List Int)) (A1 : Option Addr) (c1 : Nat) (l1 : List Int) (r : List Int) (w : World) (hr0 : Kd.C (Kd.slice 3 (Kd.int .i64)) w A0 l0.length l0) (hc0 : l0.length ≤ c0) (hr1 : Kd.C (Kd.int .i64) w A1 l1.length l1) (hc1 : l1.length ≤ c1) (h : impl_Mixed.f k l0 l1 = some r) :
  Calls Try.prog 42 #[.slice A0 l0.length c0, .slice A1 l1.length c1] w fun e w' => ∃ v0_ : Value, e = .returned (v0_) ∧ Kd.R (Kd.int .i64) 3 w' w.heap.size (fun _ => True) v0_ r ∧ Below w.heap.size w w' := by
 have HR0 := Aside0.mk hr0
 have HC0 := Aside0.mk hc0
 clear hr0 hc0
 have HR1 := Aside0.mk hr1
 have HC1 := Aside0.mk hc1
 clear hr1 hc1
 have HB := Aside0.mk (Below.refl w.heap.size w)
 have H : (impl_Mixed.l0 k l0 l1 ([] : List Int) (mn (l0.length : Int) (l1.length : Int)) 0) = some r := h
 clear h
 obtain ⟨ji3, hji3⟩ : ∃ j_ : Int, (mn (l0.length : Int) (l1.length : Int)) = j_ := ⟨_, rfl⟩
 replace H : (impl_Mixed.l0 k l0 l1 ([] : List Int) ji3 0) = some r := by first | (rw [hji3] at H; exact H) | (simp only [hji3] at H ⊢; exact H)
 (try (have hji3l : 0 ≤ ji3 := by (rw [← hji3]; unfold mn; (repeat' split) <;> omega)))
 (try (have hji3m : 0 ≤ ji3 := by omega))
 have hji3_ : (if (l1.length : Int) < (l0.length : Int) then (l1.length : Int) else (l0.length : Int)) = ji3 := hji3
 try (have hji3n_ := hji3_; simp only [Int.ofNat_lt] at hji3n_)
 have H' := Aside0.mk H
 clear H
 go_enter Try.func42, Try.ntmps42
 go_wp2
 go_loopg [5, 12] k (fun kq v5 v12 w' => ∃ (x5_1 : List Int) (x12_1 : Int), v12 = .int .i64 x12_1 ∧ Aside0 (impl_Mixed.l0 kq l0 l1 x5_1 ji3 x12_1 = some r) ∧ Aside0 (kq ≤ k) ∧ Aside0 (Kd.R (Kd.int .i64) 3 w' w.heap.size (fun _ => True) v5 x5_1) ∧ Aside0 (Below w.heap.size w w'))
 case atStart => exact ⟨(([] : List Int)), (0), rS, H', ⟨Nat.le_refl _⟩, ⟨by first | exact Kd.R_nil _ _ _ _ _ | exact Kd.N_nil _ _ _ _ _ | exact Kd.V_nil _ _ _ _ _ | exact Kd.Q_nil _ _ _ _ _ | exact Kd.S_nil _ _ _ _ _⟩, ⟨bZ HB⟩⟩
 case round =>
  clear H'
  try clear c1
  try clear p2
  obtain ⟨x5_1, x12_1, rfl, HA, HK1, HO_5, HB⟩ := hrel
  cases gk with
  | zero => exact absurd HA.out (by simp [impl_Mixed.l0])
  | succ k1 =>
   have H := HA.out
   clear HA
   simp only [impl_Mixed.l0] at H
   by_cases c4 : x12_1 < ji3
   ·rw [if_pos c4] at H
    have c4b0 := decide_eq_true c4
    clear c4
    by_cases c5 : 0 ≤ x12_1
    ·rw [if_pos c5] at H
     have c5b0 := decide_eq_true c5
     clear c5
     by_cases c6 : x12_1 < (l0.length : Int)
     ·rw [if_pos c6] at H
      have c6b0 := decide_eq_true c6
      clear c6
      by_cases c7 : x12_1 < (l1.length : Int)
      ·rw [if_pos c7] at H
       have c7b0 := decide_eq_true c7
       clear c7
       replace H := Option.bind_eq_some_iff.mp H
       obtain ⟨t400, A80, H⟩ := H
       have A8 := Aside0.mk A80
       clear A80
       replace H := Option.bind_eq_some_iff.mp H
       obtain ⟨t403, A90, H⟩ := H
       have A9 := Aside0.mk A90
       clear A90
       have H' := Aside0.mk H
       clear H
       try go_wp2
       replace HO_5 := Aside0.mk (Kd.R_drew HO_5.out)
       replace HB := Aside0.mk (below_drew1 HB.out)
       have p398 : 0 ≤ (x12_1 : Int) := of_decide_eq_true (by first | (with_reducible assumption) | assumption)
       have q398 : x12_1 < (l0.length : Int) := of_decide_eq_true (by first | (with_reducible assumption) | assumption)
       obtain ⟨ad398, A398_0, c398_0, e398, hx398_0, hl398_0, hi398_0⟩ := at_L2 HR0.out x12_1 p398 q398
       have hw398_0 := hx398_0
       cases e398
       replace hx398_0 := (hC HB hx398_0 :)
       have HR398_0 := Aside0.mk hi398_0
       have HC398_0 := Aside0.mk hl398_0
       clear hi398_0 hl398_0
       replace p398 := eq_true p398
       replace q398 := eq_true q398
       have p399 : 0 ≤ (x12_1 : Int) := of_decide_eq_true (by first | (with_reducible assumption) | assumption)
       have q399 : x12_1 < (l1.length : Int) := of_decide_eq_true (by first | (with_reducible assumption) | assumption)
       obtain ⟨ad399, e399, hx399_0⟩ := Kd.at_int HR1.out x12_1 p399 q399
       have hw399_0 := hx399_0
       cases e399
       replace hx399_0 := (hC HB hx399_0 :)
       replace p399 := eq_true p399
       replace q399 := eq_true q399
       refine start_ (n := 12) (S := fun w' => w'.cell? (ad398.add (x12_1).toNat) = some (.slice A398_0 (rd_L2 l0 x12_1).length c398_0) ∧ w'.cell? (ad399.add (x12_1).toNat) = some (.int .i64 (rd l1 x12_1))) (ds := []) #[false, false, false, false, false, false, false, false, false, false, false, false] (by kernel_rfl) rfl rfl ⟨((hC HB hw398_0 :)), ((hC HB hw399_0 :))⟩ (fun hHeld => ?_); refine with_tabW impl_Mixed.tab5 impl_Mixed.bits5 (fun HT_ HW_ => ?_)
       generalize wr.drew = w10 at HO_5 HB HR398_0 hx398_0 hx399_0 hHeld ⊢
       refine pI 0 (some 15) HT_.out ?_
       refine pI 1 (some 16) HT_.out ?_
       refine pI 2 (some 17) HT_.out ?_
       refine pI 3 (some 18) HT_.out ?_
       refine pI 5 (some 20) HT_.out ?_
       refine pI 6 (some 21) HT_.out ?_
       refine pI 7 (some 22) HT_.out ?_
       refine tI2 4 (some 19) HT_.out HW_.out hHeld ?_
       refine tI2 8 (some 23) HT_.out HW_.out hHeld ?_
       refine oI 9 (some 24) HT_.out (fun K hK => ?_)
       refine gO Try.func69 #[.slice A398_0 (rd_L2 l0 x12_1).length c398_0, .int .i64 (rd l1 x12_1)] ?_
       with_reducible refine (impl_scaled.calls k1 _ _ (rd_L2 l0 x12_1) (rd l1 x12_1) t400 _ ?side1 ?side2 A8.out).mono ?_
       (case side1 => exact cP (Kd.C_below HR398_0.out HB.out))
       (case side2 => exact HC398_0.out)
       rintro e w11 ⟨v401, rfl, ho0, hb⟩
       refine ⟨_, rfl, ?_⟩
       have HO402 := Aside0.mk (Kd.R_lower (Kd.R_new' ho0 (Kd.R_lt (rP HO_5))) (below_size (bZ HB)))
       replace HO_5 := Aside0.mk (Kd.R_elder' (rP HO_5) (Kd.R_base ho0) hb)
       replace HB := bS HB hb
       (try clear hb)
       (try clear ho0)
       obtain ⟨Ao12, co12, eo12⟩ := Kd.R_slice HO_5.out
       (first | subst eo12 | (injection eo12 with f1_ f2_ f3_; have f4_ := f1_.symm; have f5_ := f3_.symm; clear f1_ f2_ f3_; subst f4_; subst f5_))
       obtain ⟨Ao13, co13, eo13⟩ := Kd.R_slice HO402.out
       (first | subst eo13 | (injection eo13 with f1_ f2_ f3_; have f4_ := f1_.symm; have f5_ := f3_.symm; clear f1_ f2_ f3_; subst f4_; subst f5_))
       refine hK.out _ _ ⟨((hC HB hw398_0 :)), ((hC HB hw399_0 :))⟩ (fun hHeld => ?_)
       clear hK K
       refine nO (some 24) ?_
       refine oI 10 (some 25) HT_.out (fun K hK => ?_)
       refine gO Try.func32 #[.slice Ao12 x5_1.length co12, .slice Ao13 t400.length co13] ?_
       with_reducible refine (impl_PolyAdd.calls k1 _ _ x5_1 _ _ t400 t403 _ ?side1 ?side2 ?side3 ?side4 A9.out).mono ?_
       (case side1 => exact cP ((Kd.R_reads' HO_5.out).2.2))
       (case side2 => exact (Kd.R_reads' HO_5.out).2.1)
       (case side3 => exact cP ((Kd.R_reads' HO402.out).2.2))
       (case side4 => exact (Kd.R_reads' HO402.out).2.1)
       rintro e w14 ⟨v404, rfl, ho0, hb⟩
       refine ⟨_, rfl, ?_⟩
       have HO405 := Aside0.mk (Kd.R_lower (Kd.R_new' (Kd.R_new' ho0 (Kd.R_lt (rP HO_5))) (Kd.R_lt (rP HO402))) (below_size (bZ HB)))
       replace HO_5 := Aside0.mk (Kd.R_elder' (rP HO_5) (Kd.R_base ho0) hb)
       replace HO402 := Aside0.mk (Kd.R_elder' (rP HO402) (Kd.R_base ho0) hb)
       replace HB := bS HB hb
       (try clear hb)
       (try clear ho0)
       refine hK.out _ _ ⟨((hC HB hw398_0 :)), ((hC HB hw399_0 :))⟩ (fun hHeld => ?_)
       clear hK K
       refine nO (some 25) ?_
       refine pI 11 (some 5) HT_.out ?_
       refine done_ (done_of HT_.out (by kernel_rfl)) ?_
       try go_wp2
       go_roundg k1
       case measure => have := HK1.out; omega
       case rel => exact ⟨(t403), (wrap64 (x12_1 + 1)), rS, H', ⟨by have := HK1.out; omega⟩, ⟨by (with_reducible repeat (first | apply Kd.R_alloc | apply Kd.R_drewN | apply Kd.R_drew)); exact Kd.R_mono HO405.out (fun _ hk => trivial)⟩, ⟨bZ HB⟩⟩
      ·rw [if_neg c7] at H
       exact absurd H (by simp)
     ·rw [if_neg c6] at H
      exact absurd H (by simp)
    ·rw [if_neg c5] at H
     exact absurd H (by simp)
   ·rw [if_neg c4] at H
    have c4b0 := decide_eq_false c4
    clear c4
    obtain rfl := Option.some.inj H
    go_wp2
    go_ret
    exact ⟨_, by first | rfl | (simp [errW_none, errW_some] <;> rfl) | (simp only [← hji3]; first | rfl | (simp [errW_none, errW_some] <;> rfl)) | (simp [*, errW_none, errW_some] <;> rfl), by (with_reducible repeat (first | apply Kd.R_alloc | apply Kd.R_drewN | apply Kd.R_drew)); exact HO_5.out, bZ HB⟩
end Go.Proofs.Ytcnejiflpioaiaa.Pf
end
section
namespace Go.Proofs.Ytcnejiflpioaiaa.Pf
open Go.RowKit Go.Proofs.YtcnejiflpioaiaaW.PrintWords Go.Proofs.YtcnejiflpioaiaaW.PrintLast Go.Proofs.YtcnejiflpioaiaaW.PrintMore
attribute [local go_sem] max2_int min2_int max_two min_two max_three min_three max_four min_four   -- for this text's walks alone
set_option linter.unusedVariables false
set_option linter.unusedSimpArgs false
mutual
def impl_PolyThrough.l0 : Nat → List Int → List Int → List Int → Int → Int → Option (List Int)
 | 0, _, _, _, _, _ => none
 | k + 1, x0, x3, x12, x13, x14 => if x14 < x13 then (if 0 ≤ x14 then (if x14 < (x12.length : Int) then (impl_PolyThrough.l1 k x0 x3 x14 (rd x12 x14) (([1] : List Int)) 1 x12 x13 x14 (x0.length : Int) 0) else (none)) else (none)) else (some x3)
def impl_PolyThrough.l1 : Nat → List Int → List Int → Int → Int → List Int → Int → List Int → Int → Int → Int → Int → Option (List Int)
 | 0, _, _, _, _, _, _, _, _, _, _, _ => none
 | k + 1, x0, x3, x4, x5, x6, x7, x12, x13, x14, x21, x22 => if x22 < x21 then (if x22 = x4 then (impl_PolyThrough.l1 k x0 x3 x4 x5 x6 x7 x12 x13 x14 x21 (wrap64 (x22 + 1))) else ((impl_PolyMul.f k x6 (([wrap64 (-(wrap64 (x22 + 1))), 1] : List Int))).bind fun t413 => ((impl_ScMul.f x7 (wrap64 (x4 - x22))).bind fun t416 => (impl_PolyThrough.l1 k x0 x3 x4 x5 t413 t416 x12 x13 x14 x21 (wrap64 (x22 + 1)))))) else ((impl_ScInv.f k x7).bind fun t417 => ((impl_ScMul.f x5 t417).bind fun t418 => ((impl_scaled.f k x6 t418).bind fun t419 => ((impl_PolyAdd.f k x3 t419).bind fun t422 => (impl_PolyThrough.l0 k x0 t422 x12 x13 (wrap64 (x14 + 1)))))))
end
def impl_PolyThrough.f (k : Nat) (l0 : List Int) : Option (List Int) := if (l0.length : Int) > 16 then (some ([] : List Int)) else (impl_PolyThrough.l0 k l0 ([] : List Int) l0 (l0.length : Int) 0)
set_option maxHeartbeats 8000000 in
set_option maxRecDepth 100000 in
theorem impl_PolyThrough.calls (k : Nat) (A0 : Option Addr) (c0 : Nat) (l0 : List Int) (r : List Int) (w : World) (hr0 : Kd.C (Kd.int .i64) w A0 l0.length l0) (hc0 : l0.length ≤ c0) (h : impl_PolyThrough.f k l0 = some r) :
  Calls Try.prog 46 #[.slice A0 l0.length c0] w fun e w' => ∃ v0_ : Value, e = .returned (v0_) ∧ Kd.R (Kd.int .i64) 3 w' w.heap.size (fun _ => True) v0_ r ∧ Below w.heap.size w w' := by
 have HR0 := Aside0.mk hr0
 have HC0 := Aside0.mk hc0
 clear hr0 hc0
 have HB := Aside0.mk (Below.refl w.heap.size w)
 have H : (if (l0.length : Int) > 16 then (some ([] : List Int)) else (impl_PolyThrough.l0 k l0 ([] : List Int) l0 (l0.length : Int) 0)) = some r := h
 clear h
 by_cases c2 : (l0.length : Int) > 16
 ·rw [if_pos c2] at H
  have c2b0 := decide_eq_true c2
  have c2b1 : decide (16 < l0.length) = true := decide_eq_true (by omega)
  clear c2
  obtain rfl := Option.some.inj H
  go_enter Try.func46, Try.ntmps46
  go_wp2
  go_ret
  exact ⟨_, by first | rfl | (simp [errW_none, errW_some] <;> rfl) | (simp [*, errW_none, errW_some] <;> rfl), by first | exact Kd.R_nil _ _ _ _ _ | exact Kd.N_nil _ _ _ _ _ | exact Kd.V_nil _ _ _ _ _ | exact Kd.Q_nil _ _ _ _ _ | exact Kd.S_nil _ _ _ _ _, bZ HB⟩
 ·rw [if_neg c2] at H
  have c2b0 := decide_eq_false c2
  have c2b1 : decide (16 < l0.length) = false := decide_eq_false (by omega)
  clear c2
  have H' := Aside0.mk H
  clear H
  go_enter Try.func46, Try.ntmps46
  go_wp2
  go_loopg [3, 14] k (fun kq v3 v14 w' => ∃ (x3_1 : List Int) (x14_1 : Int), v14 = .int .i64 x14_1 ∧ Aside0 (impl_PolyThrough.l0 kq l0 x3_1 l0 (l0.length : Int) x14_1 = some r) ∧ Aside0 (kq ≤ k) ∧ Aside0 (Kd.R (Kd.int .i64) 3 w' w.heap.size (fun _ => True) v3 x3_1) ∧ Aside0 (Below w.heap.size w w'))
  case atStart => exact ⟨(([] : List Int)), (0), rS, H', ⟨Nat.le_refl _⟩, ⟨by first | exact Kd.R_nil _ _ _ _ _ | exact Kd.N_nil _ _ _ _ _ | exact Kd.V_nil _ _ _ _ _ | exact Kd.Q_nil _ _ _ _ _ | exact Kd.S_nil _ _ _ _ _⟩, ⟨bZ HB⟩⟩
  case round =>
   clear H'
   try clear c2
   try clear c2b0
   try clear c2b1
   try clear p2
   obtain ⟨x3_1, x14_1, rfl, HA, HK1, HO_3, HB⟩ := hrel
   cases gk with
   | zero => exact absurd HA.out (by simp [impl_PolyThrough.l0])
   | succ k1 =>
    have H := HA.out
    clear HA
    simp only [impl_PolyThrough.l0] at H
    by_cases c3 : x14_1 < (l0.length : Int)
    ·rw [if_pos c3] at H
     have c3b0 := decide_eq_true c3
     clear c3
     by_cases c4 : 0 ≤ x14_1
     ·rw [if_pos c4] at H
      have c4b0 := decide_eq_true c4
      clear c4
      by_cases c5 : x14_1 < (l0.length : Int)
      ·rw [if_pos c5] at H
       have c5b0 := decide_eq_true c5
       clear c5
       obtain ⟨y407, hy407⟩ : ∃ y_ : List Int, y_ = (([1] : List Int)) := ⟨_, rfl⟩
       replace H : (impl_PolyThrough.l1 k1 l0 x3_1 x14_1 (rd l0 x14_1) y407 1 l0 (l0.length : Int) x14_1 (l0.length : Int) 0) = some r := by first | (rw [hy407]; with_reducible exact H) | (have H2_ := (Option.bind_some _ _).symm.trans H; rw [hy407]; with_reducible exact H2_) | (have H2_ := (Option.bind_some _ _).symm.trans H; with_reducible exact H2_) | with_reducible exact H | (rw [hy407]; exact H) | exact H
       have Ny407 := Aside0.mk hy407
       clear hy407
       have H' := Aside0.mk H
       clear H
       have p406 : 0 ≤ (x14_1 : Int) := of_decide_eq_true (by first | (with_reducible assumption) | assumption)
       have q406 : x14_1 < (l0.length : Int) := of_decide_eq_true (by first | (with_reducible assumption) | assumption)
       obtain ⟨ad406, e406, hx406_0⟩ := Kd.at_int HR0.out x14_1 p406 q406
       cases e406
       replace hx406_0 := (hC HB hx406_0 :)
       replace p406 := eq_true p406
       replace q406 := eq_true q406
       go_wp2_with (first | ((with_reducible refine gate_dst (N := 19) rfl ?_); refine Kd.R_lit (Kd.int .i64) _ 3 ?hg (N := 19) ?hd (xs := ([1] : List Int)) (inner := [.int .i64 1]) (ok := fun _ => True) (okp := fun _ => True) ?hr ?hp (fun _ hk => hk) trivial (Below.refl _ _) (Nat.le_refl _) (by simp) ?_; (case hd => rfl); (case hg => rfl); (case hr => first | (go_simp; done) | (go_simp; rfl)); (case hp => exact (Reps.one (show Kd.M (Kd.int .i64) _ _ _ 1 [.int .i64 1] from rfl) (Reps.none _ _))); intro v408 w6 ho7 hb hg_ hnew_; clear hg_ hnew_; (first | rw [← Ny407.out] at ho7 | (simp only [Int.reduceToNat] at ho7; rw [← Ny407.out] at ho7)); have HO409 := Aside0.mk (Kd.R_lower (Kd.R_new' ho7 (Kd.R_lt (rP HO_3))) (below_size (bZ HB))); replace HO_3 := Aside0.mk (Kd.R_elder' (rP HO_3) (Kd.R_base ho7) hb); replace HB := bS HB hb; clear hb ho7))
       go_loopg [6, 7, 22] k1 (fun kq v6 v7 v22 w' => ∃ (x6_2 : List Int) (x7_2 : Int) (x22_2 : Int), v7 = .int .i64 x7_2 ∧ v22 = .int .i64 x22_2 ∧ Aside0 (impl_PolyThrough.l1 kq l0 x3_1 x14_1 (rd l0 x14_1) x6_2 x7_2 l0 (l0.length : Int) x14_1 (l0.length : Int) x22_2 = some r) ∧ Aside0 (kq ≤ k1) ∧ Aside0 (Kd.R (Kd.int .i64) 3 w' w.heap.size (fun k_ => some k_ ≠ (v6 : Value).ownBlock) u3 x3_1) ∧ Aside0 (Kd.R (Kd.int .i64) 3 w' w.heap.size (fun k_ => some k_ ≠ (u3 : Value).ownBlock) v6 x6_2) ∧ Aside0 (Below w.heap.size w w'))
       case atStart => exact ⟨(y407), (1), (0), rS, rS, H', ⟨Nat.le_refl _⟩, ⟨by (with_reducible repeat (first | apply Kd.R_alloc | apply Kd.R_drewN | apply Kd.R_drew)); exact Kd.R_mono HO_3.out (fun _ hk => hk.2)⟩, ⟨by (with_reducible repeat (first | apply Kd.R_alloc | apply Kd.R_drewN | apply Kd.R_drew)); exact Kd.R_mono HO409.out (fun _ hk => hk.2)⟩, ⟨bZ HB⟩⟩
       case round =>
        clear H'
        try clear c2
        try clear c2b0
        try clear c2b1
        try clear p2
        try clear c3
        try clear c3b0
        try clear c4
        try clear c4b0
        try clear p4
        try clear q4
        try clear hx4
        try clear c5
        try clear c5b0
        try clear hx406_0
        try clear p2
        try clear p406
        try clear q406
        obtain ⟨x6_2, x7_2, x22_2, rfl, rfl, HA, HK2, HO_3, HO_6, HB⟩ := hrel
        cases gk with
        | zero => exact absurd HA.out (by simp [impl_PolyThrough.l1])
        | succ k2 =>
         have H := HA.out
         clear HA
         simp only [impl_PolyThrough.l1] at H
         by_cases c8 : x22_2 < (l0.length : Int)
         ·rw [if_pos c8] at H
          have c8b0 := decide_eq_true c8
          clear c8
          by_cases c9 : x22_2 = x14_1
          ·rw [if_pos c9] at H
           have c9b0 : (x22_2 == x14_1) = true := beq_iff_eq.mpr c9
           have c9b1 : (x22_2 != x14_1) = false := bne_eq_false_iff_eq.mpr c9
           clear c9
           have H' := Aside0.mk H
           clear H
           go_wp2
           go_roundg k2
           case measure => have := HK1.out; have := HK2.out; omega
           case rel => exact ⟨(x6_2), (x7_2), (wrap64 (x22_2 + 1)), rS, rS, H', ⟨by have := HK1.out; have := HK2.out; omega⟩, ⟨rP HO_3⟩, ⟨rP HO_6⟩, ⟨bZ HB⟩⟩
          ·rw [if_neg c9] at H
           have c9b0 : (x22_2 == x14_1) = false := beq_eq_false_iff_ne.mpr c9
           have c9b1 : (x22_2 != x14_1) = true := bne_iff_ne.mpr c9
           obtain ⟨y410, hy410⟩ : ∃ y_ : List Int, y_ = (([wrap64 (-(wrap64 (x22_2 + 1))), 1] : List Int)) := ⟨_, rfl⟩
           replace H : ((impl_PolyMul.f k2 x6_2 y410).bind fun t413 => ((impl_ScMul.f x7_2 (wrap64 (x14_1 - x22_2))).bind fun t416 => (impl_PolyThrough.l1 k2 l0 x3_1 x14_1 (rd l0 x14_1) t413 t416 l0 (l0.length : Int) x14_1 (l0.length : Int) (wrap64 (x22_2 + 1))))) = some r := by first | (rw [hy410]; with_reducible exact H) | (have H2_ := (Option.bind_some _ _).symm.trans H; rw [hy410]; with_reducible exact H2_) | (have H2_ := (Option.bind_some _ _).symm.trans H; with_reducible exact H2_) | with_reducible exact H | (rw [hy410]; exact H) | exact H
           have Ny410 := Aside0.mk hy410
           clear hy410
           replace H := Option.bind_eq_some_iff.mp H
           obtain ⟨t413, A100, H⟩ := H
           have A10 := Aside0.mk A100
           clear A100
           replace H := Option.bind_eq_some_iff.mp H
           obtain ⟨t416, A110, H⟩ := H
           have A11 := Aside0.mk A110
           clear A110
           have H' := Aside0.mk H
           clear H
           go_wp2_with (first | ((with_reducible refine gate_dst (N := 32) rfl ?_); refine Kd.R_lit (Kd.int .i64) _ 3 ?hg (N := 32) ?hd (xs := ([wrap64 (-(wrap64 (x22_2 + 1))), 1] : List Int)) (inner := [.int .i64 (wrap64 (-(wrap64 (x22_2 + 1)))), .int .i64 1]) (ok := fun _ => True) (okp := fun _ => True) ?hr ?hp (fun _ hk => hk) trivial (Below.refl _ _) (Nat.le_refl _) (by simp) ?_; (case hd => rfl); (case hg => rfl); (case hr => first | (go_simp; done) | (go_simp; rfl)); (case hp => exact (Reps.one (show Kd.M (Kd.int .i64) _ _ _ (wrap64 (-(wrap64 (x22_2 + 1)))) [.int .i64 (wrap64 (-(wrap64 (x22_2 + 1))))] from rfl) (Reps.one (show Kd.M (Kd.int .i64) _ _ _ 1 [.int .i64 1] from rfl) (Reps.none _ _)))); intro v411 w12 ho13 hb hg_ hnew_; clear hg_ hnew_; (first | rw [← Ny410.out] at ho13 | (simp only [Int.reduceToNat] at ho13; rw [← Ny410.out] at ho13)); have HO412 := Aside0.mk (Kd.R_lower (Kd.R_new' (Kd.R_new' ho13 (Kd.R_lt (rP HO_3))) (Kd.R_lt (rP HO_6))) (below_size (bZ HB))); replace HO_3 := Aside0.mk (Kd.R_elder' (rP HO_3) (Kd.R_base ho13) hb); replace HO_6 := Aside0.mk (Kd.R_elder' (rP HO_6) (Kd.R_base ho13) hb); replace HB := bS HB hb; clear hb ho13; obtain ⟨Ao14, co14, eo14⟩ := Kd.R_slice HO_6.out; subst eo14; obtain ⟨Ao15, co15, eo15⟩ := Kd.R_slice HO412.out; subst eo15) | (refine gC (some 33) Try.func34 #[.slice Ao14 x6_2.length co14, .slice Ao15 y410.length co15] ?_; (with_reducible refine (impl_PolyMul.calls k2 _ _ x6_2 _ _ y410 t413 _ ?side1 ?side2 ?side3 ?side4 A10.out).mono ?_); (case side1 => exact cP ((Kd.R_reads' HO_6.out).2.2)); (case side2 => exact (Kd.R_reads' HO_6.out).2.1); (case side3 => exact cP ((Kd.R_reads' HO412.out).2.2)); (case side4 => exact (Kd.R_reads' HO412.out).2.1); rintro e w16 ⟨v414, rfl, ho0, hb⟩; refine ⟨_, rfl, ?_⟩; have HO415 := Aside0.mk (Kd.R_lower (Kd.R_new' (Kd.R_new' (Kd.R_new' ho0 (Kd.R_lt (rP HO_3))) (Kd.R_lt (rP HO_6))) (Kd.R_lt (rP HO412))) (below_size (bZ HB))); replace HO_3 := Aside0.mk (Kd.R_elder' (rP HO_3) (Kd.R_base ho0) hb); replace HO_6 := Aside0.mk (Kd.R_elder' (rP HO_6) (Kd.R_base ho0) hb); replace HO412 := Aside0.mk (Kd.R_elder' (rP HO412) (Kd.R_base ho0) hb); replace HB := bS HB hb; (try clear hb); (try clear ho0)) | (refine gC (some 38) Try.func49 #[.int .i64 x7_2, .int .i64 (wrap64 (x14_1 - x22_2))] ?_; (with_reducible refine (impl_ScMul.calls x7_2 (wrap64 (x14_1 - x22_2)) t416 _ A11.out).mono ?_); rintro e w' ⟨rfl, ⟨nd, rfl⟩⟩; refine ⟨_, rfl, ?_⟩))
           go_roundg k2
           case measure => have := HK1.out; have := HK2.out; omega
           case rel => exact ⟨(t413), (t416), (wrap64 (x22_2 + 1)), rS, rS, H', ⟨by have := HK1.out; have := HK2.out; omega⟩, ⟨by (with_reducible repeat (first | apply Kd.R_alloc | apply Kd.R_drewN | apply Kd.R_drew)); exact Kd.R_mono HO_3.out (fun _ hk => hk.2)⟩, ⟨by (with_reducible repeat (first | apply Kd.R_alloc | apply Kd.R_drewN | apply Kd.R_drew)); exact Kd.R_mono HO415.out (fun _ hk => hk.1.1.2)⟩, ⟨bZ HB⟩⟩
         ·rw [if_neg c8] at H
          have c8b0 := decide_eq_false c8
          clear c8
          replace H := Option.bind_eq_some_iff.mp H
          obtain ⟨t417, A170, H⟩ := H
          have A17 := Aside0.mk A170
          clear A170
          replace H := Option.bind_eq_some_iff.mp H
          obtain ⟨t418, A180, H⟩ := H
          have A18 := Aside0.mk A180
          clear A180
          replace H := Option.bind_eq_some_iff.mp H
          obtain ⟨t419, A190, H⟩ := H
          have A19 := Aside0.mk A190
          clear A190
          replace H := Option.bind_eq_some_iff.mp H
          obtain ⟨t422, A200, H⟩ := H
          have A20 := Aside0.mk A200
          clear A200
          have H' := Aside0.mk H
          clear H
          go_wp2_with (first | (refine gC (some 44) Try.func73 #[.int .i64 x7_2] ?_; (with_reducible refine (impl_ScInv.calls k2 x7_2 t417 _ A17.out).mono ?_); rintro e w' ⟨rfl, ⟨nd, rfl⟩⟩; refine ⟨_, rfl, ?_⟩) | (refine gC (some 45) Try.func49 #[.int .i64 (rd l0 x14_1), .int .i64 t417] ?_; (with_reducible refine (impl_ScMul.calls (rd l0 x14_1) t417 t418 _ A18.out).mono ?_); rintro e w' ⟨rfl, ⟨nd, rfl⟩⟩; refine ⟨_, rfl, ?_⟩; obtain ⟨Ao21, co21, eo21⟩ := Kd.R_slice HO_6.out; subst eo21) | (refine gC (some 46) Try.func69 #[.slice Ao21 x6_2.length co21, .int .i64 t418] ?_; (with_reducible refine (impl_scaled.calls k2 _ _ x6_2 t418 t419 _ ?side1 ?side2 A19.out).mono ?_); (case side1 => exact cP ((Kd.R_reads' HO_6.out).2.2)); (case side2 => exact (Kd.R_reads' HO_6.out).2.1); rintro e w22 ⟨v420, rfl, ho0, hb⟩; refine ⟨_, rfl, ?_⟩; have HO421 := Aside0.mk (Kd.R_lower (Kd.R_new' (Kd.R_new' ho0 (Kd.R_lt (rP HO_3))) (Kd.R_lt (rP HO_6))) (below_size (bZ HB))); replace HO_3 := Aside0.mk (Kd.R_elder' (rP HO_3) (Kd.R_base ho0) hb); replace HO_6 := Aside0.mk (Kd.R_elder' (rP HO_6) (Kd.R_base ho0) hb); replace HB := bS HB hb; (try clear hb); (try clear ho0); obtain ⟨Ao23, co23, eo23⟩ := Kd.R_slice HO_3.out; subst eo23; obtain ⟨Ao24, co24, eo24⟩ := Kd.R_slice HO421.out; subst eo24) | (refine gC (some 47) Try.func32 #[.slice Ao23 x3_1.length co23, .slice Ao24 t419.length co24] ?_; (with_reducible refine (impl_PolyAdd.calls k2 _ _ x3_1 _ _ t419 t422 _ ?side1 ?side2 ?side3 ?side4 A20.out).mono ?_); (case side1 => exact cP ((Kd.R_reads' HO_3.out).2.2)); (case side2 => exact (Kd.R_reads' HO_3.out).2.1); (case side3 => exact cP ((Kd.R_reads' HO421.out).2.2)); (case side4 => exact (Kd.R_reads' HO421.out).2.1); rintro e w25 ⟨v423, rfl, ho0, hb⟩; refine ⟨_, rfl, ?_⟩; have HO424 := Aside0.mk (Kd.R_lower (Kd.R_new' (Kd.R_new' (Kd.R_new' ho0 (Kd.R_lt (rP HO_3))) (Kd.R_lt (rP HO_6))) (Kd.R_lt (rP HO421))) (below_size (bZ HB))); replace HO_3 := Aside0.mk (Kd.R_elder' (rP HO_3) (Kd.R_base ho0) hb); replace HO_6 := Aside0.mk (Kd.R_elder' (rP HO_6) (Kd.R_base ho0) hb); replace HO421 := Aside0.mk (Kd.R_elder' (rP HO421) (Kd.R_base ho0) hb); replace HB := bS HB hb; (try clear hb); (try clear ho0)))
          go_roundg k2
          case measure => have := HK1.out; have := HK2.out; omega
          case rel => exact ⟨(t422), (wrap64 (x14_1 + 1)), rS, H', ⟨by have := HK1.out; have := HK2.out; omega⟩, ⟨by (with_reducible repeat (first | apply Kd.R_alloc | apply Kd.R_drewN | apply Kd.R_drew)); exact Kd.R_mono HO424.out (fun _ hk => trivial)⟩, ⟨bZ HB⟩⟩
      ·rw [if_neg c5] at H
       exact absurd H (by simp)
     ·rw [if_neg c4] at H
      exact absurd H (by simp)
    ·rw [if_neg c3] at H
     have c3b0 := decide_eq_false c3
     clear c3
     obtain rfl := Option.some.inj H
     go_wp2
     go_ret
     exact ⟨_, by first | rfl | (simp [errW_none, errW_some] <;> rfl) | (simp [*, errW_none, errW_some] <;> rfl), by (with_reducible repeat (first | apply Kd.R_alloc | apply Kd.R_drewN | apply Kd.R_drew)); exact HO_3.out, bZ HB⟩
end Go.Proofs.Ytcnejiflpioaiaa.Pf
end
section
namespace Go.Proofs.Ytcnejiflpioaiaa.Pf
open Go.RowKit Go.Proofs.YtcnejiflpioaiaaW.PrintWords Go.Proofs.YtcnejiflpioaiaaW.PrintLast Go.Proofs.YtcnejiflpioaiaaW.PrintMore
attribute [local go_sem] max2_int min2_int max_two min_two max_three min_three max_four min_four   -- for this text's walks alone
set_option linter.unusedVariables false
set_option linter.unusedSimpArgs false
def impl_isScalar.f (a0 : Int) : Option (Bool) := if a0 ≥ 0 then (some (decide (a0 < 1009))) else (some false)
set_option maxHeartbeats 8000000 in
set_option maxRecDepth 100000 in
theorem impl_isScalar.calls (a0 : Int) (r : Bool) (w : World) (h : impl_isScalar.f a0 = some r) :
  Calls Try.prog 100 #[.int .i64 a0] w fun e w' => e = .returned (.bool r) ∧ Drawn0 w w' := by
 have H : (if a0 ≥ 0 then (some (decide (a0 < 1009))) else (some false)) = some r := h
 clear h
 by_cases c2 : a0 ≥ 0
 ·rw [if_pos c2] at H
  have c2b0 := decide_eq_true c2
  clear c2
  obtain rfl := Option.some.inj H
  go_enter Try.func100, Try.ntmps100
  go_wp2
  go_ret
  exact ⟨rS, rD⟩
 ·rw [if_neg c2] at H
  have c2b0 := decide_eq_false c2
  clear c2
  obtain rfl := Option.some.inj H
  go_enter Try.func100, Try.ntmps100
  go_wp2
  go_ret
  exact ⟨rS, rD⟩
end Go.Proofs.Ytcnejiflpioaiaa.Pf
end
