/- What is proved here: part 2 of 5 of the proof of the given statement FnPoints: the contracts of the Go functions that it reaches, the plain facts on lists and numbers, and (in the last part) the statement itself. No conditions beyond the given ones. -/
import Derived.Test.YtmbjefdkjdemhaaMFnPointswSlim
import Derived.Test.YtmbjefdkjdemhaaMFnPointsa

section
namespace Go.Proofs.Ytmbjefdkjdemhaa.Pf
open Go.RowKit Go.Proofs.YtmbjefdkjdemhaaW.PrintWords Go.Proofs.YtmbjefdkjdemhaaW.PrintLast Go.Proofs.YtmbjefdkjdemhaaW.PrintMore
attribute [local go_sem] max2_int min2_int max_two min_two max_three min_three max_four min_four   -- for this text's walks alone
set_option linter.unusedVariables false
set_option linter.unusedSimpArgs false
/-! ### spec_DrawCurve: function 29 -/
def spec_DrawCurve.f (k : Nat) (l0 : List Int) : Option (Int × Int × Bool × Int × Int × Bool × Int × Int × Bool) := (spec_l01New.f k l0).bind fun bt284 => ((spec_l07Curve.f k bt284.1 bt284.2.1 bt284.2.2).bind fun bt288 => ((spec_l07Curve.f k bt284.1 bt288.2.2.2.1 bt288.2.2.2.2).bind fun bt294 => ((spec_l07Curve.f k bt284.1 bt294.2.2.2.1 bt294.2.2.2.2).bind fun bt300 => (some (bt288.1, bt288.2.1, bt288.2.2.1, bt294.1, bt294.2.1, bt294.2.2.1, bt300.1, bt300.2.1, bt300.2.2.1)))))
theorem spec_DrawCurve.mono : ∀ a0 k, LeO (spec_DrawCurve.f k a0) (spec_DrawCurve.f (k + 1) a0) := by
 intro a0 k
 unfold spec_DrawCurve.f
 repeat' first
   | (with_reducible exact spec_l01New.mono _ _)
   | (with_reducible exact spec_l07Curve.mono _ _ _ _)
   | (with_reducible exact LeO.refl _)
   | (with_reducible exact LeO.none _)
   | (with_reducible refine LeO.ite ?_ ?_)
   | (with_reducible refine LeO.bind ?_ (fun _ => ?_))
   | exact spec_l01New.mono _ _
   | exact spec_l07Curve.mono _ _ _ _
   | exact LeO.none _
   | refine LeO.ite ?_ ?_
   | refine LeO.bind ?_ (fun _ => ?_)
set_option maxHeartbeats 8000000 in
set_option maxRecDepth 100000 in
theorem spec_DrawCurve.calls (k : Nat) (A0 : Option Addr) (c0 : Nat) (l0 : List Int) (r1 : Int) (r2 : Int) (r3 : Bool) (r4 : Int) (r5 : Int) (r6 : Bool) (r7 : Int) (r8 : Int) (r9 : Bool) (w : World) (hr0 : Kd.C (Kd.int .u8) w A0 l0.length l0) (hc0 : l0.length ≤ c0) (h : spec_DrawCurve.f k l0 = some (r1, r2, r3, r4, r5, r6, r7, r8, r9)) :
  Calls Try.prog 29 #[.slice A0 l0.length c0] w fun e w' => e = .returned (.tuple #[.agg #[.int .i64 r1, .int .i64 r2, .bool r3], .agg #[.int .i64 r4, .int .i64 r5, .bool r6], .agg #[.int .i64 r7, .int .i64 r8, .bool r9]]) ∧ Below w.heap.size w w' := by
 have hu25 := Try.underlying25
 have HR0 := Aside0.mk hr0
 have HC0 := Aside0.mk hc0
 clear hr0 hc0
 have HB := Aside0.mk (Below.refl w.heap.size w)
 have H : ((spec_l01New.f k l0).bind fun bt284 => ((spec_l07Curve.f k bt284.1 bt284.2.1 bt284.2.2).bind fun bt288 => ((spec_l07Curve.f k bt284.1 bt288.2.2.2.1 bt288.2.2.2.2).bind fun bt294 => ((spec_l07Curve.f k bt284.1 bt294.2.2.2.1 bt294.2.2.2.2).bind fun bt300 => (some (bt288.1, bt288.2.1, bt288.2.2.1, bt294.1, bt294.2.1, bt294.2.2.1, bt300.1, bt300.2.1, bt300.2.2.1)))))) = some (r1, r2, r3, r4, r5, r6, r7, r8, r9) := h
 clear h
 replace H := Option.bind_eq_some_iff.mp H
 obtain ⟨⟨t284, t285, t286⟩, A20, H⟩ := H
 have A2 := Aside0.mk A20
 clear A20
 replace H := Option.bind_eq_some_iff.mp H
 obtain ⟨⟨t288, t289, t290, t291, t292⟩, A30, H⟩ := H
 have A3 := Aside0.mk A30
 clear A30
 replace H := Option.bind_eq_some_iff.mp H
 obtain ⟨⟨t294, t295, t296, t297, t298⟩, A40, H⟩ := H
 have A4 := Aside0.mk A40
 clear A40
 replace H := Option.bind_eq_some_iff.mp H
 obtain ⟨⟨t300, t301, t302, t303, t304⟩, A50, H⟩ := H
 have A5 := Aside0.mk A50
 clear A50
 simp only [Option.some.injEq, Prod.mk.injEq] at H
 obtain ⟨rfl, rfl, rfl, rfl, rfl, rfl, rfl, rfl, rfl⟩ := H
 go_enter Try.func29, Try.ntmps29
 try go_wp2_with (first | ((with_reducible refine gate_dst (N := 2) rfl ?_); refine bE 2 #[.int .i64 0, .int .i64 0, .bool false] 25 ?_; intro gb281 hg w6 hbox hb; have BK281 := Aside0.mk (hbox); have GW281 := bG HB hg; have GE281 := bG HB hg; replace HB := bS HB hb; clear hb hbox hg) | ((with_reducible refine gate_dst (N := 3) rfl ?_); refine bE 3 #[.int .i64 0, .int .i64 0, .bool false] 25 ?_; intro gb282 hg w7 hbox hb; have BK282 := Aside0.mk (hbox); have GW282 := bG HB hg; have GE282 := bG HB hg; replace HB := bS HB hb; have NB281_282 := bL BK281 hg; have NB282_281 := bR BK281 hg; replace BK281 := bB BK281 hb; clear hb hbox hg) | ((with_reducible refine gate_dst (N := 4) rfl ?_); refine bE 4 #[.int .i64 0, .int .i64 0, .bool false] 25 ?_; intro gb283 hg w8 hbox hb; have BK283 := Aside0.mk (hbox); have GW283 := bG HB hg; have GE283 := bG HB hg; replace HB := bS HB hb; have NB281_283 := bL BK281 hg; have NB283_281 := bR BK281 hg; replace BK281 := bB BK281 hb; have NB282_283 := bL BK282 hg; have NB283_282 := bR BK282 hg; replace BK282 := bB BK282 hb; clear hb hbox hg) | ((with_reducible refine gate_callee (f := 59) rfl ?_); refine gL (some 9) Try.func59 #[.slice A0 l0.length c0] ?_; (with_reducible refine (spec_l01New.calls k _ _ l0 t284 t285 t286 w _ ?side1 ?side2 ?side3 A2.out).mono ?_); (case side1 => repeat (first | (with_reducible first | exact HB.out | apply below_alloc | apply pw_below_drewN | apply below_drew1 | refine below_set ?_ GE281.out | refine below_set ?_ GE282.out | refine below_set ?_ GE283.out) | exact HB.out)); (case side2 => exact HR0.out); (case side3 => exact HC0.out); rintro e w9 ⟨g287, rfl, hi, hb, hb2⟩; refine ⟨_, rfl, ?_⟩; replace HB := Aside0.mk (hb); have HI287 := Aside0.mk (hi); have NB287_281 := Aside0.mk (IsS89.ne_blk hi (blk_below (bP BK281) hb2) (by decide)); have NB281_287 := Aside0.mk (Ne.symm (IsS89.ne_blk hi (blk_below (bP BK281) hb2) (by decide))); replace BK281 := Aside0.mk (blk_below (bP BK281) hb2); have NB287_282 := Aside0.mk (IsS89.ne_blk hi (blk_below (bP BK282) hb2) (by decide)); have NB282_287 := Aside0.mk (Ne.symm (IsS89.ne_blk hi (blk_below (bP BK282) hb2) (by decide))); replace BK282 := Aside0.mk (blk_below (bP BK282) hb2); have NB287_283 := Aside0.mk (IsS89.ne_blk hi (blk_below (bP BK283) hb2) (by decide)); have NB283_287 := Aside0.mk (Ne.symm (IsS89.ne_blk hi (blk_below (bP BK283) hb2) (by decide))); replace BK283 := Aside0.mk (blk_below (bP BK283) hb2); (try clear hb)) | ((with_reducible refine gate_callee (f := 81) rfl ?_); refine gL (some 11) Try.func81 #[.pointer (some ⟨g287, 0, none⟩)] ?_; (with_reducible refine (spec_l07Curve.calls k g287 t284 t285 t286 t288 t289 t290 t291 t292 w _ ?side1 ?side2 A3.out).mono ?_); (case side1 => repeat (first | (with_reducible first | exact HI287.out | apply IsS89.alloc | apply IsS89.drewN | apply IsS89.drew | apply IsS89.set_1 | apply IsS89.set_2 | refine IsS89.far ?_ NB287_281.out _ | refine IsS89.far ?_ NB287_282.out _ | refine IsS89.far ?_ NB287_283.out _) | exact HI287.out)); (case side2 => repeat (first | (with_reducible first | exact HB.out | apply below_alloc | apply pw_below_drewN | apply below_drew1 | refine below_set ?_ (IsS89.ge HI287.out) | refine below_set ?_ GE281.out | refine below_set ?_ GE282.out | refine below_set ?_ GE283.out) | exact HB.out)); rintro e w10 ⟨rfl, hi, hb, hk⟩; refine ⟨_, rfl, ?_⟩; replace BK281 := Aside0.mk (KeepBut.blk hk (g' := gb281) (o := .cells #[.int .i64 0, .int .i64 0, .bool false] 25 (0, 0)) (bP BK281) NB281_287.out (by simp)); replace BK282 := Aside0.mk (KeepBut.blk hk (g' := gb282) (o := .cells #[.int .i64 0, .int .i64 0, .bool false] 25 (0, 0)) (bP BK282) NB282_287.out (by simp)); replace BK283 := Aside0.mk (KeepBut.blk hk (g' := gb283) (o := .cells #[.int .i64 0, .int .i64 0, .bool false] 25 (0, 0)) (bP BK283) NB283_287.out (by simp)); replace HB := Aside0.mk (hb); replace HI287 := Aside0.mk (hi); (try clear hb)) | ((with_reducible refine gate_dst (N := 6) rfl ?_); refine bE 6 #[.int .i64 0, .int .i64 0, .bool false] 25 ?_; intro gb293 hg w11 hbox hb; have BK293 := Aside0.mk (hbox); have GW293 := Aside0.mk ((by rw [hg]; exact (below_size (by repeat (first | (with_reducible first | exact HB.out | apply below_alloc | apply pw_below_drewN | apply below_drew1 | refine below_set ?_ (IsS89.ge HI287.out) | refine below_set ?_ GE281.out | refine below_set ?_ GE282.out | refine below_set ?_ GE283.out) | exact HB.out))) : w.heap.size ≤ gb293)); have GE293 := Aside0.mk ((by rw [hg]; exact (below_size (by repeat (first | (with_reducible first | exact HB.out | apply below_alloc | apply pw_below_drewN | apply below_drew1 | refine below_set ?_ (IsS89.ge HI287.out) | refine below_set ?_ GE281.out | refine below_set ?_ GE282.out | refine below_set ?_ GE283.out) | exact HB.out))) : w.heap.size ≤ gb293)); replace HB := Aside0.mk (below_step (by repeat (first | (with_reducible first | exact HB.out | apply below_alloc | apply pw_below_drewN | apply below_drew1 | refine below_set ?_ (IsS89.ge HI287.out) | refine below_set ?_ GE281.out | refine below_set ?_ GE282.out | refine below_set ?_ GE283.out) | exact HB.out)) hb); have NB281_293 := bL BK281 hg; have NB293_281 := bR BK281 hg; replace BK281 := bB BK281 hb; have NB282_293 := bL BK282 hg; have NB293_282 := bR BK282 hg; replace BK282 := bB BK282 hb; have NB283_293 := bL BK283 hg; have NB293_283 := bR BK283 hg; replace BK283 := bB BK283 hb; have NB287_293 := Aside0.mk ((by rw [hg]; exact Nat.ne_of_lt (IsS89.lt (show IsS89 w _ g287 t284 t291 t292 from by repeat (first | (with_reducible first | exact HI287.out | apply IsS89.alloc | apply IsS89.drewN | apply IsS89.drew | apply IsS89.set_1 | apply IsS89.set_2 | refine IsS89.far ?_ NB287_281.out _ | refine IsS89.far ?_ NB287_282.out _ | refine IsS89.far ?_ NB287_283.out _) | exact HI287.out))) : g287 ≠ gb293)); have NB293_287 := Aside0.mk ((by rw [hg]; exact Nat.ne_of_gt (IsS89.lt (show IsS89 w _ g287 t284 t291 t292 from by repeat (first | (with_reducible first | exact HI287.out | apply IsS89.alloc | apply IsS89.drewN | apply IsS89.drew | apply IsS89.set_1 | apply IsS89.set_2 | refine IsS89.far ?_ NB287_281.out _ | refine IsS89.far ?_ NB287_282.out _ | refine IsS89.far ?_ NB287_283.out _) | exact HI287.out))) : gb293 ≠ g287)); replace HI287 := Aside0.mk (IsS89.below (by repeat (first | (with_reducible first | exact HI287.out | apply IsS89.alloc | apply IsS89.drewN | apply IsS89.drew | apply IsS89.set_1 | apply IsS89.set_2 | refine IsS89.far ?_ NB287_281.out _ | refine IsS89.far ?_ NB287_282.out _ | refine IsS89.far ?_ NB287_283.out _) | exact HI287.out)) hb); clear hb hbox hg; obtain ⟨hnb12, hnc12⟩ := nB NB293_281; obtain ⟨hnb13, hnc13⟩ := nB NB293_282; obtain ⟨hnb14, hnc14⟩ := nB NB293_283; obtain ⟨hnb15, hnc15⟩ := nB NB293_287; obtain ⟨hcz16_0, hcz16_1, hcz16_2, hfz16_0, hfz16_1, hfz16_2⟩ := bK3 (w := w11) BK293) | ((with_reducible refine gate_callee (f := 81) rfl ?_); refine gL (some 13) Try.func81 #[.pointer (some ⟨g287, 0, none⟩)] ?_; (with_reducible refine (spec_l07Curve.calls k g287 t284 t291 t292 t294 t295 t296 t297 t298 w _ ?side1 ?side2 A4.out).mono ?_); (case side1 => repeat (first | (with_reducible first | exact HI287.out | apply IsS89.alloc | apply IsS89.drewN | apply IsS89.drew | apply IsS89.set_1 | apply IsS89.set_2 | refine IsS89.far ?_ NB287_281.out _ | refine IsS89.far ?_ NB287_282.out _ | refine IsS89.far ?_ NB287_283.out _ | refine IsS89.far ?_ NB287_293.out _) | exact HI287.out)); (case side2 => repeat (first | (with_reducible first | exact HB.out | apply below_alloc | apply pw_below_drewN | apply below_drew1 | refine below_set ?_ (IsS89.ge HI287.out) | refine below_set ?_ GE281.out | refine below_set ?_ GE282.out | refine below_set ?_ GE283.out | refine below_set ?_ GE293.out) | exact HB.out)); rintro e w17 ⟨rfl, hi, hb, hk⟩; refine ⟨_, rfl, ?_⟩; replace BK281 := Aside0.mk (KeepBut.blk hk (g' := gb281) (o := .cells #[.int .i64 0, .int .i64 0, .bool false] 25 (0, 0)) (bP BK281) NB281_287.out (by simp)); replace BK282 := Aside0.mk (KeepBut.blk hk (g' := gb282) (o := .cells #[.int .i64 0, .int .i64 0, .bool false] 25 (0, 0)) (bP BK282) NB282_287.out (by simp)); replace BK283 := Aside0.mk (KeepBut.blk hk (g' := gb283) (o := .cells #[.int .i64 0, .int .i64 0, .bool false] 25 (0, 0)) (bP BK283) NB283_287.out (by simp)); replace BK293 := Aside0.mk (KeepBut.blk hk (g' := gb293) (o := .cells #[.int .i64 t288, .int .i64 t289, .bool t290] 25 (0, 0)) (bU BK293) NB293_287.out (by simp)); replace HB := Aside0.mk (hb); replace HI287 := Aside0.mk (hi); (try clear hb)) | ((with_reducible refine gate_dst (N := 7) rfl ?_); refine bE 7 #[.int .i64 0, .int .i64 0, .bool false] 25 ?_; intro gb299 hg w18 hbox hb; have BK299 := Aside0.mk (hbox); have GW299 := Aside0.mk ((by rw [hg]; exact (below_size (by repeat (first | (with_reducible first | exact HB.out | apply below_alloc | apply pw_below_drewN | apply below_drew1 | refine below_set ?_ (IsS89.ge HI287.out) | refine below_set ?_ GE281.out | refine below_set ?_ GE282.out | refine below_set ?_ GE283.out | refine below_set ?_ GE293.out) | exact HB.out))) : w.heap.size ≤ gb299)); have GE299 := Aside0.mk ((by rw [hg]; exact (below_size (by repeat (first | (with_reducible first | exact HB.out | apply below_alloc | apply pw_below_drewN | apply below_drew1 | refine below_set ?_ (IsS89.ge HI287.out) | refine below_set ?_ GE281.out | refine below_set ?_ GE282.out | refine below_set ?_ GE283.out | refine below_set ?_ GE293.out) | exact HB.out))) : w.heap.size ≤ gb299)); replace HB := Aside0.mk (below_step (by repeat (first | (with_reducible first | exact HB.out | apply below_alloc | apply pw_below_drewN | apply below_drew1 | refine below_set ?_ (IsS89.ge HI287.out) | refine below_set ?_ GE281.out | refine below_set ?_ GE282.out | refine below_set ?_ GE283.out | refine below_set ?_ GE293.out) | exact HB.out)) hb); have NB281_299 := bL BK281 hg; have NB299_281 := bR BK281 hg; replace BK281 := bB BK281 hb; have NB282_299 := bL BK282 hg; have NB299_282 := bR BK282 hg; replace BK282 := bB BK282 hb; have NB283_299 := bL BK283 hg; have NB299_283 := bR BK283 hg; replace BK283 := bB BK283 hb; have NB293_299 := bL BK293 hg; have NB299_293 := bR BK293 hg; replace BK293 := bB BK293 hb; have NB287_299 := Aside0.mk ((by rw [hg]; exact Nat.ne_of_lt (IsS89.lt (show IsS89 w _ g287 t284 t297 t298 from by repeat (first | (with_reducible first | exact HI287.out | apply IsS89.alloc | apply IsS89.drewN | apply IsS89.drew | apply IsS89.set_1 | apply IsS89.set_2 | refine IsS89.far ?_ NB287_281.out _ | refine IsS89.far ?_ NB287_282.out _ | refine IsS89.far ?_ NB287_283.out _ | refine IsS89.far ?_ NB287_293.out _) | exact HI287.out))) : g287 ≠ gb299)); have NB299_287 := Aside0.mk ((by rw [hg]; exact Nat.ne_of_gt (IsS89.lt (show IsS89 w _ g287 t284 t297 t298 from by repeat (first | (with_reducible first | exact HI287.out | apply IsS89.alloc | apply IsS89.drewN | apply IsS89.drew | apply IsS89.set_1 | apply IsS89.set_2 | refine IsS89.far ?_ NB287_281.out _ | refine IsS89.far ?_ NB287_282.out _ | refine IsS89.far ?_ NB287_283.out _ | refine IsS89.far ?_ NB287_293.out _) | exact HI287.out))) : gb299 ≠ g287)); replace HI287 := Aside0.mk (IsS89.below (by repeat (first | (with_reducible first | exact HI287.out | apply IsS89.alloc | apply IsS89.drewN | apply IsS89.drew | apply IsS89.set_1 | apply IsS89.set_2 | refine IsS89.far ?_ NB287_281.out _ | refine IsS89.far ?_ NB287_282.out _ | refine IsS89.far ?_ NB287_283.out _ | refine IsS89.far ?_ NB287_293.out _) | exact HI287.out)) hb); clear hb hbox hg; obtain ⟨hnb19, hnc19⟩ := nB NB299_281; obtain ⟨hnb20, hnc20⟩ := nB NB299_282; obtain ⟨hnb21, hnc21⟩ := nB NB299_283; obtain ⟨hnb22, hnc22⟩ := nB NB299_293; obtain ⟨hnb23, hnc23⟩ := nB NB299_287; obtain ⟨hcz24_0, hcz24_1, hcz24_2, hfz24_0, hfz24_1, hfz24_2⟩ := bK3 (w := w18) BK299))
 obtain ⟨w25, hW_⟩ : ∃ W_ : World, W_ = (((w18.setCell ⟨gb299, 0, none⟩ (.int .i64 t294)).setCell ⟨gb299, 1, none⟩ (.int .i64 t295)).setCell ⟨gb299, 2, none⟩ (.bool t296)) := ⟨_, rfl⟩
 replace BK281 := bW hW_ BK281
 replace BK282 := bW hW_ BK282
 replace BK283 := bW hW_ BK283
 replace BK293 := bW hW_ BK293
 replace BK299 := bX hW_ 25 #[.int .i64 t294, .int .i64 t295, .bool t296] BK299
 have n5_ : Aside0 (IsS89 w (((w18.setCell ⟨gb299, 0, none⟩ (.int .i64 t294)).setCell ⟨gb299, 1, none⟩ (.int .i64 t295)).setCell ⟨gb299, 2, none⟩ (.bool t296)) g287 t284 t297 t298) := ⟨by repeat (first | (with_reducible first | exact HI287.out | apply IsS89.alloc | apply IsS89.drewN | apply IsS89.drew | apply IsS89.set_1 | apply IsS89.set_2 | refine IsS89.far ?_ NB287_281.out _ | refine IsS89.far ?_ NB287_282.out _ | refine IsS89.far ?_ NB287_283.out _ | refine IsS89.far ?_ NB287_293.out _ | refine IsS89.far ?_ NB287_299.out _) | exact HI287.out)⟩
 rw [← hW_] at n5_
 have n6_ : Aside0 (Below w.heap.size w (((w18.setCell ⟨gb299, 0, none⟩ (.int .i64 t294)).setCell ⟨gb299, 1, none⟩ (.int .i64 t295)).setCell ⟨gb299, 2, none⟩ (.bool t296))) := ⟨by repeat (first | (with_reducible first | exact HB.out | apply below_alloc | apply pw_below_drewN | apply below_drew1 | refine below_set ?_ (IsS89.ge HI287.out) | refine below_set ?_ GE281.out | refine below_set ?_ GE282.out | refine below_set ?_ GE283.out | refine below_set ?_ GE293.out | refine below_set ?_ GE299.out) | exact HB.out)⟩
 rw [← hW_] at n6_
 (try clear HI287)
 (try clear HB)
 have HI287 := n5_
 clear n5_
 have HB := n6_
 clear n6_
 rw [← hW_]
 clear hW_
 replace BK281 := Aside0.mk (blk_drew BK281.out)
 replace BK282 := Aside0.mk (blk_drew BK282.out)
 replace BK283 := Aside0.mk (blk_drew BK283.out)
 replace BK293 := Aside0.mk (blk_drew BK293.out)
 replace BK299 := Aside0.mk (blk_drew BK299.out)
 replace HI287 := Aside0.mk (IsS89.drew HI287.out)
 replace HB := Aside0.mk (below_drew1 HB.out)
 refine start_ (n := 7) (S := fun w' => SP3 w' gb293 (.int .i64 t288) (.int .i64 t289) (.bool t290) (SQ3 w' gb299 (.int .i64 t294) (.int .i64 t295) (.bool t296))) (ds := []) #[false, false, false, false, false, false, false] (by kernel_rfl) rfl rfl (bS3 BK293 (bT3 BK299)) (fun hHeld => ?_)
 generalize w25.drew = w26 at BK281 BK282 BK283 BK293 BK299 HI287 HB hHeld ⊢
 refine pure_ (i := 2) (N := some 16) (v := ?_) (a' := ?_) #[false, false, true, false, false, false, false] rfl rfl (by kernel_rfl) (fun _ _ _ h => h) (Or.inl ⟨by rfl, ?_⟩) ?_ ?_
 rotate_left
 ·intro w'
  go_simp
  with_reducible rfl
 rotate_left
 ·simp only [Act.put, List.setIfInBounds_toArray, List.set_cons_zero, List.set_cons_succ, i64_w, i32_w]
  rfl
 refine take_ (i := 0) (N := some 14) (v := ?_) (a' := ?_) #[true, false, true, false, false, false, false] rfl rfl (by kernel_rfl) (fun _ _ _ h => h) (Or.inl ⟨by rfl, ?_⟩) hHeld ?_ ?_
 rotate_left
 ·rintro w' ⟨s0, s1, s2, s3, s4, s5⟩
  go_simp
  with_reducible rfl
 rotate_left
 ·simp only [Act.put, List.setIfInBounds_toArray, List.set_cons_zero, List.set_cons_succ, i64_w, i32_w]
  rfl
 refine take_ (i := 1) (N := some 15) (v := ?_) (a' := ?_) #[true, true, true, false, false, false, false] rfl rfl (by kernel_rfl) (fun _ _ _ h => h) (Or.inl ⟨by rfl, ?_⟩) hHeld ?_ ?_
 rotate_left
 ·rintro w' ⟨s0, s1, s2, s3, s4, s5⟩
  go_simp
  with_reducible rfl
 rotate_left
 ·simp only [Act.put, List.setIfInBounds_toArray, List.set_cons_zero, List.set_cons_succ, i64_w, i32_w]
  rfl
 refine one_ (i := 3) (N := some 17) #[true, true, true, true, false, false, false] rfl rfl (by kernel_rfl) (by decide) (fun K hK => ?_)
 refine gO Try.func81 #[.pointer (some ⟨g287, 0, none⟩)] ?_
 with_reducible refine (spec_l07Curve.calls k g287 t284 t297 t298 t300 t301 t302 t303 t304 w _ ?side1 ?side2 A5.out).mono ?_
 (case side1 => repeat (first | (with_reducible first | exact HI287.out | apply IsS89.alloc | apply IsS89.drewN | apply IsS89.drew | apply IsS89.set_1 | apply IsS89.set_2 | refine IsS89.far ?_ NB287_281.out _ | refine IsS89.far ?_ NB287_282.out _ | refine IsS89.far ?_ NB287_283.out _ | refine IsS89.far ?_ NB287_293.out _ | refine IsS89.far ?_ NB287_299.out _) | exact HI287.out))
 (case side2 => repeat (first | (with_reducible first | exact HB.out | apply below_alloc | apply pw_below_drewN | apply below_drew1 | refine below_set ?_ (IsS89.ge HI287.out) | refine below_set ?_ GE281.out | refine below_set ?_ GE282.out | refine below_set ?_ GE283.out | refine below_set ?_ GE293.out | refine below_set ?_ GE299.out) | exact HB.out))
 rintro e w27 ⟨rfl, hi, hb, hk⟩
 refine ⟨_, rfl, ?_⟩
 replace BK281 := Aside0.mk (KeepBut.blk hk (g' := gb281) (o := .cells #[.int .i64 0, .int .i64 0, .bool false] 25 (0, 0)) (bP BK281) NB281_287.out (by simp))
 replace BK282 := Aside0.mk (KeepBut.blk hk (g' := gb282) (o := .cells #[.int .i64 0, .int .i64 0, .bool false] 25 (0, 0)) (bP BK282) NB282_287.out (by simp))
 replace BK283 := Aside0.mk (KeepBut.blk hk (g' := gb283) (o := .cells #[.int .i64 0, .int .i64 0, .bool false] 25 (0, 0)) (bP BK283) NB283_287.out (by simp))
 replace BK293 := Aside0.mk (KeepBut.blk hk (g' := gb293) (o := .cells #[.int .i64 t288, .int .i64 t289, .bool t290] 25 (0, 0)) (bP BK293) NB293_287.out (by simp))
 replace BK299 := Aside0.mk (KeepBut.blk hk (g' := gb299) (o := .cells #[.int .i64 t294, .int .i64 t295, .bool t296] 25 (0, 0)) (bP BK299) NB299_287.out (by simp))
 replace HB := Aside0.mk (hb)
 replace HI287 := Aside0.mk (hi)
 (try clear hb)
 refine hK.out _ _ (bS3 BK293 (bT3 BK299)) (fun hHeld => ?_)
 clear hK K
 refine nO (some 17) ?_
 refine one_ (i := 4) (N := none) #[true, true, true, true, true, false, false] rfl rfl (by kernel_rfl) (by decide) (fun K hK => ?_)
 have hs28 : w27.cell? ⟨gb281, 0, none⟩ = some (.int .i64 0) := bc BK281 0
 have hfs28 := blk_frozen BK281.out 0
 have hns28_1 := NB282_281.out
 have hns28_2 := NB283_281.out
 have hns28_3 := NB293_281.out
 have hns28_4 := NB299_281.out
 have hms28_1 := NB281_282.out
 have hms28_2 := NB281_283.out
 have hms28_3 := NB281_293.out
 have hms28_4 := NB281_299.out
 have hs29 : w27.cell? ⟨gb281, 1, none⟩ = some (.int .i64 0) := bc BK281 1
 have hfs29 := blk_frozen BK281.out 1
 have hns29_1 := NB282_281.out
 have hns29_2 := NB283_281.out
 have hns29_3 := NB293_281.out
 have hns29_4 := NB299_281.out
 have hms29_1 := NB281_282.out
 have hms29_2 := NB281_283.out
 have hms29_3 := NB281_293.out
 have hms29_4 := NB281_299.out
 have hs30 : w27.cell? ⟨gb281, 2, none⟩ = some (.bool false) := bc BK281 2
 have hfs30 := blk_frozen BK281.out 2
 have hns30_1 := NB282_281.out
 have hns30_2 := NB283_281.out
 have hns30_3 := NB293_281.out
 have hns30_4 := NB299_281.out
 have hms30_1 := NB281_282.out
 have hms30_2 := NB281_283.out
 have hms30_3 := NB281_293.out
 have hms30_4 := NB281_299.out
 refine skip_ (w1 := ?_) (by rfl) rfl ?_ ?_
 rotate_left
 ·go_simp
  rfl
 refine hK.out _ _ ⟨((cell_far (p := ⟨gb281, _, none⟩) NB293_281.out _).trans (((cell_far (p := ⟨gb281, _, none⟩) NB293_281.out _).trans (((cell_far (p := ⟨gb281, _, none⟩) NB293_281.out _).trans (hHeld.1)))))), ((cell_far (p := ⟨gb281, _, none⟩) NB293_281.out _).trans (((cell_far (p := ⟨gb281, _, none⟩) NB293_281.out _).trans (((cell_far (p := ⟨gb281, _, none⟩) NB293_281.out _).trans (hHeld.2.1)))))), ((cell_far (p := ⟨gb281, _, none⟩) NB293_281.out _).trans (((cell_far (p := ⟨gb281, _, none⟩) NB293_281.out _).trans (((cell_far (p := ⟨gb281, _, none⟩) NB293_281.out _).trans (hHeld.2.2.1)))))), ((cell_far (p := ⟨gb281, _, none⟩) NB299_281.out _).trans (((cell_far (p := ⟨gb281, _, none⟩) NB299_281.out _).trans (((cell_far (p := ⟨gb281, _, none⟩) NB299_281.out _).trans (hHeld.2.2.2.1)))))), ((cell_far (p := ⟨gb281, _, none⟩) NB299_281.out _).trans (((cell_far (p := ⟨gb281, _, none⟩) NB299_281.out _).trans (((cell_far (p := ⟨gb281, _, none⟩) NB299_281.out _).trans (hHeld.2.2.2.2.1)))))), ((cell_far (p := ⟨gb281, _, none⟩) NB299_281.out _).trans (((cell_far (p := ⟨gb281, _, none⟩) NB299_281.out _).trans (((cell_far (p := ⟨gb281, _, none⟩) NB299_281.out _).trans (hHeld.2.2.2.2.2))))))⟩ (fun hHeld => ?_)
 clear hK K
 refine one_ (i := 5) (N := none) #[true, true, true, true, true, true, false] rfl rfl (by kernel_rfl) (by decide) (fun K hK => ?_)
 have hs31 : w27.cell? ⟨gb282, 0, none⟩ = some (.int .i64 0) := bc BK282 0
 have hfs31 := blk_frozen BK282.out 0
 have hns31_0 := NB281_282.out
 have hns31_2 := NB283_282.out
 have hns31_3 := NB293_282.out
 have hns31_4 := NB299_282.out
 have hms31_0 := NB282_281.out
 have hms31_2 := NB282_283.out
 have hms31_3 := NB282_293.out
 have hms31_4 := NB282_299.out
 have hs32 : w27.cell? ⟨gb282, 1, none⟩ = some (.int .i64 0) := bc BK282 1
 have hfs32 := blk_frozen BK282.out 1
 have hns32_0 := NB281_282.out
 have hns32_2 := NB283_282.out
 have hns32_3 := NB293_282.out
 have hns32_4 := NB299_282.out
 have hms32_0 := NB282_281.out
 have hms32_2 := NB282_283.out
 have hms32_3 := NB282_293.out
 have hms32_4 := NB282_299.out
 have hs33 : w27.cell? ⟨gb282, 2, none⟩ = some (.bool false) := bc BK282 2
 have hfs33 := blk_frozen BK282.out 2
 have hns33_0 := NB281_282.out
 have hns33_2 := NB283_282.out
 have hns33_3 := NB293_282.out
 have hns33_4 := NB299_282.out
 have hms33_0 := NB282_281.out
 have hms33_2 := NB282_283.out
 have hms33_3 := NB282_293.out
 have hms33_4 := NB282_299.out
 refine skip_ (w1 := ?_) (by rfl) rfl ?_ ?_
 rotate_left
 ·go_simp
  rfl
 refine hK.out _ _ ⟨((cell_far (p := ⟨gb282, _, none⟩) NB293_282.out _).trans (((cell_far (p := ⟨gb282, _, none⟩) NB293_282.out _).trans (((cell_far (p := ⟨gb282, _, none⟩) NB293_282.out _).trans (hHeld.1)))))), ((cell_far (p := ⟨gb282, _, none⟩) NB293_282.out _).trans (((cell_far (p := ⟨gb282, _, none⟩) NB293_282.out _).trans (((cell_far (p := ⟨gb282, _, none⟩) NB293_282.out _).trans (hHeld.2.1)))))), ((cell_far (p := ⟨gb282, _, none⟩) NB293_282.out _).trans (((cell_far (p := ⟨gb282, _, none⟩) NB293_282.out _).trans (((cell_far (p := ⟨gb282, _, none⟩) NB293_282.out _).trans (hHeld.2.2.1)))))), ((cell_far (p := ⟨gb282, _, none⟩) NB299_282.out _).trans (((cell_far (p := ⟨gb282, _, none⟩) NB299_282.out _).trans (((cell_far (p := ⟨gb282, _, none⟩) NB299_282.out _).trans (hHeld.2.2.2.1)))))), ((cell_far (p := ⟨gb282, _, none⟩) NB299_282.out _).trans (((cell_far (p := ⟨gb282, _, none⟩) NB299_282.out _).trans (((cell_far (p := ⟨gb282, _, none⟩) NB299_282.out _).trans (hHeld.2.2.2.2.1)))))), ((cell_far (p := ⟨gb282, _, none⟩) NB299_282.out _).trans (((cell_far (p := ⟨gb282, _, none⟩) NB299_282.out _).trans (((cell_far (p := ⟨gb282, _, none⟩) NB299_282.out _).trans (hHeld.2.2.2.2.2))))))⟩ (fun hHeld => ?_)
 clear hK K
 refine one_ (i := 6) (N := none) #[true, true, true, true, true, true, true] rfl rfl (by kernel_rfl) (by decide) (fun K hK => ?_)
 have hs34 : w27.cell? ⟨gb283, 0, none⟩ = some (.int .i64 0) := bc BK283 0
 have hfs34 := blk_frozen BK283.out 0
 have hns34_0 := NB281_283.out
 have hns34_1 := NB282_283.out
 have hns34_3 := NB293_283.out
 have hns34_4 := NB299_283.out
 have hms34_0 := NB283_281.out
 have hms34_1 := NB283_282.out
 have hms34_3 := NB283_293.out
 have hms34_4 := NB283_299.out
 have hs35 : w27.cell? ⟨gb283, 1, none⟩ = some (.int .i64 0) := bc BK283 1
 have hfs35 := blk_frozen BK283.out 1
 have hns35_0 := NB281_283.out
 have hns35_1 := NB282_283.out
 have hns35_3 := NB293_283.out
 have hns35_4 := NB299_283.out
 have hms35_0 := NB283_281.out
 have hms35_1 := NB283_282.out
 have hms35_3 := NB283_293.out
 have hms35_4 := NB283_299.out
 have hs36 : w27.cell? ⟨gb283, 2, none⟩ = some (.bool false) := bc BK283 2
 have hfs36 := blk_frozen BK283.out 2
 have hns36_0 := NB281_283.out
 have hns36_1 := NB282_283.out
 have hns36_3 := NB293_283.out
 have hns36_4 := NB299_283.out
 have hms36_0 := NB283_281.out
 have hms36_1 := NB283_282.out
 have hms36_3 := NB283_293.out
 have hms36_4 := NB283_299.out
 refine skip_ (w1 := ?_) (by rfl) rfl ?_ ?_
 rotate_left
 ·go_simp
  rfl
 refine hK.out _ _ ⟨((cell_far (p := ⟨gb283, _, none⟩) NB293_283.out _).trans (((cell_far (p := ⟨gb283, _, none⟩) NB293_283.out _).trans (((cell_far (p := ⟨gb283, _, none⟩) NB293_283.out _).trans (hHeld.1)))))), ((cell_far (p := ⟨gb283, _, none⟩) NB293_283.out _).trans (((cell_far (p := ⟨gb283, _, none⟩) NB293_283.out _).trans (((cell_far (p := ⟨gb283, _, none⟩) NB293_283.out _).trans (hHeld.2.1)))))), ((cell_far (p := ⟨gb283, _, none⟩) NB293_283.out _).trans (((cell_far (p := ⟨gb283, _, none⟩) NB293_283.out _).trans (((cell_far (p := ⟨gb283, _, none⟩) NB293_283.out _).trans (hHeld.2.2.1)))))), ((cell_far (p := ⟨gb283, _, none⟩) NB299_283.out _).trans (((cell_far (p := ⟨gb283, _, none⟩) NB299_283.out _).trans (((cell_far (p := ⟨gb283, _, none⟩) NB299_283.out _).trans (hHeld.2.2.2.1)))))), ((cell_far (p := ⟨gb283, _, none⟩) NB299_283.out _).trans (((cell_far (p := ⟨gb283, _, none⟩) NB299_283.out _).trans (((cell_far (p := ⟨gb283, _, none⟩) NB299_283.out _).trans (hHeld.2.2.2.2.1)))))), ((cell_far (p := ⟨gb283, _, none⟩) NB299_283.out _).trans (((cell_far (p := ⟨gb283, _, none⟩) NB299_283.out _).trans (((cell_far (p := ⟨gb283, _, none⟩) NB299_283.out _).trans (hHeld.2.2.2.2.2))))))⟩ (fun hHeld => ?_)
 clear hK K
 refine done_ (by kernel_rfl) ?_
 try go_wp2
 refine bodyPost_ret (results_list (rs := [.cell 2 25, .cell 3 25, .cell 4 25]) rfl (by simp) (.cell gb281 25 #[.int .i64 t288, .int .i64 t289, .bool t290] (0, 0) _ rfl (bU BK281) Try.underlying25 rfl (by kernel_rfl) (.cell gb282 25 #[.int .i64 t294, .int .i64 t295, .bool t296] (0, 0) _ rfl (bU BK282) Try.underlying25 rfl (by kernel_rfl) (.cell gb283 25 #[.int .i64 t300, .int .i64 t301, .bool t302] (0, 0) _ rfl (bU BK283) Try.underlying25 rfl (by kernel_rfl) .nil)))) rfl ?_
 exact ⟨by first | rfl | (simp [errW_none, errW_some] <;> rfl) | (simp [*, errW_none, errW_some] <;> rfl), by repeat (first | (with_reducible first | exact HB.out | apply below_alloc | apply pw_below_drewN | apply below_drew1 | refine below_set ?_ (IsS89.ge HI287.out) | refine below_set ?_ GE281.out | refine below_set ?_ GE282.out | refine below_set ?_ GE283.out | refine below_set ?_ GE293.out | refine below_set ?_ GE299.out) | exact HB.out)⟩
/-! ### spec_PointAdd: function 53 -/
def spec_PointAdd.j0 : Nat → Bool → Int → Int → Bool → Int → Int → Bool → Option (Int × Int × Bool)
 | 0, _, _, _, _, _, _, _ => none
 | k + 1, x12, x306000, x306001, x306002, x307000, x307001, x307002 => if x12 = true then ((spec_l07Zero.f).bind fun bt310 => (some (bt310.1, bt310.2.1, bt310.2.2))) else ((spec_l07Add.f k x306000 x306001 x306002 x307000 x307001 x307002).bind fun bt313 => (some (bt313.1, bt313.2.1, bt313.2.2)))
def spec_PointAdd.f (k : Nat) (a0_0 : Int) (a0_1 : Int) (a0_2 : Bool) (a1_0 : Int) (a1_1 : Int) (a1_2 : Bool) : Option (Int × Int × Bool) := (spec_PointOk.f a0_0 a0_1 a0_2).bind fun t308 => (if t308 = true then ((spec_PointOk.f a1_0 a1_1 a1_2).bind fun t309 => (spec_PointAdd.j0 k (!t309) a0_0 a0_1 a0_2 a1_0 a1_1 a1_2)) else (spec_PointAdd.j0 k true a0_0 a0_1 a0_2 a1_0 a1_1 a1_2))
theorem spec_PointAdd.mono_l : ∀ k, (∀ y0 y1 y2 y3 y4 y5 y6, LeO (spec_PointAdd.j0 k y0 y1 y2 y3 y4 y5 y6) (spec_PointAdd.j0 (k + 1) y0 y1 y2 y3 y4 y5 y6))
 | 0 => fun _ _ _ _ _ _ _ r h => by simp [spec_PointAdd.j0] at h
 | k + 1 => by
  have ih0 := spec_PointAdd.mono_l k
  ·intro y0 y1 y2 y3 y4 y5 y6
   unfold spec_PointAdd.j0
   repeat' first
   | (with_reducible exact ih0 _ _ _ _ _ _ _)
   | (with_reducible exact spec_l07Add.mono _ _ _ _ _ _ _)
   | (with_reducible exact LeO.refl _)
   | (with_reducible exact LeO.none _)
   | (with_reducible refine LeO.ite ?_ ?_)
   | (with_reducible refine LeO.bind ?_ (fun _ => ?_))
   | exact ih0 _ _ _ _ _ _ _
   | exact spec_l07Add.mono _ _ _ _ _ _ _
   | exact LeO.none _
   | refine LeO.ite ?_ ?_
   | refine LeO.bind ?_ (fun _ => ?_)
theorem spec_PointAdd.mono : ∀ a0 a1 a2 a3 a4 a5 k, LeO (spec_PointAdd.f k a0 a1 a2 a3 a4 a5) (spec_PointAdd.f (k + 1) a0 a1 a2 a3 a4 a5) := by
 intro a0 a1 a2 a3 a4 a5 k
 have ih0 := spec_PointAdd.mono_l k
 unfold spec_PointAdd.f
 repeat' first
   | (with_reducible exact ih0 _ _ _ _ _ _ _)
   | (with_reducible exact spec_l07Add.mono _ _ _ _ _ _ _)
   | (with_reducible exact LeO.refl _)
   | (with_reducible exact LeO.none _)
   | (with_reducible refine LeO.ite ?_ ?_)
   | (with_reducible refine LeO.bind ?_ (fun _ => ?_))
   | exact ih0 _ _ _ _ _ _ _
   | exact spec_l07Add.mono _ _ _ _ _ _ _
   | exact LeO.none _
   | refine LeO.ite ?_ ?_
   | refine LeO.bind ?_ (fun _ => ?_)
set_option maxHeartbeats 8000000 in
set_option maxRecDepth 100000 in
theorem spec_PointAdd.calls (k : Nat) (a0_0 : Int) (a0_1 : Int) (a0_2 : Bool) (a1_0 : Int) (a1_1 : Int) (a1_2 : Bool) (r1 : Int) (r2 : Int) (r3 : Bool) (w : World) (h : spec_PointAdd.f k a0_0 a0_1 a0_2 a1_0 a1_1 a1_2 = some (r1, r2, r3)) :
  Calls Try.prog 53 #[.agg #[.int .i64 a0_0, .int .i64 a0_1, .bool a0_2], .agg #[.int .i64 a1_0, .int .i64 a1_1, .bool a1_2]] w fun e w' => e = .returned (.agg #[.int .i64 r1, .int .i64 r2, .bool r3]) ∧ Below w.heap.size w w' := by
 have hu25 := Try.underlying25
 have HB := Aside0.mk (Below.refl w.heap.size w)
 have H : ((spec_PointOk.f a0_0 a0_1 a0_2).bind fun t308 => (if t308 = true then ((spec_PointOk.f a1_0 a1_1 a1_2).bind fun t309 => (spec_PointAdd.j0 k (!t309) a0_0 a0_1 a0_2 a1_0 a1_1 a1_2)) else (spec_PointAdd.j0 k true a0_0 a0_1 a0_2 a1_0 a1_1 a1_2))) = some (r1, r2, r3) := h
 clear h
 have HC3 := Aside0.mk H
 clear H
 go_enter Try.func53, Try.ntmps53
 go_upto_region 1 with (first | ((with_reducible refine gate_dst (N := 2) rfl ?_); refine bE 2 #[.int .i64 a0_0, .int .i64 a0_1, .bool a0_2] 25 ?_; intro gb305 hg w4 hbox hb; have BK305 := Aside0.mk (hbox); have GW305 := bG HB hg; have GE305 := bG HB hg; replace HB := bS HB hb; clear hb hbox hg) | ((with_reducible refine gate_dst (N := 3) rfl ?_); refine bE 3 #[.int .i64 a1_0, .int .i64 a1_1, .bool a1_2] 25 ?_; intro gb306 hg w5 hbox hb; have BK306 := Aside0.mk (hbox); have GW306 := bG HB hg; have GE306 := bG HB hg; replace HB := bS HB hb; have NB305_306 := bL BK305 hg; have NB306_305 := bR BK305 hg; replace BK305 := bB BK305 hb; clear hb hbox hg) | ((with_reducible refine gate_dst (N := 4) rfl ?_); refine bE 4 #[.int .i64 0, .int .i64 0, .bool false] 25 ?_; intro gb307 hg w6 hbox hb; have BK307 := Aside0.mk (hbox); have GW307 := bG HB hg; have GE307 := bG HB hg; replace HB := bS HB hb; have NB305_307 := bL BK305 hg; have NB307_305 := bR BK305 hg; replace BK305 := bB BK305 hb; have NB306_307 := bL BK306 hg; have NB307_306 := bR BK306 hg; replace BK306 := bB BK306 hb; clear hb hbox hg))
 (try simp only [Act.put, List.setIfInBounds_toArray, List.set_cons_zero, List.set_cons_succ])
 go_cut [12] (fun v12 wc => ∃ (kq : Nat) (x12_2 : Bool), v12 = .bool x12_2 ∧ Aside0 (spec_PointAdd.j0 kq x12_2 a0_0 a0_1 a0_2 a1_0 a1_1 a1_2 = some (r1, r2, r3)) ∧ Aside0 (kq ≤ k) ∧ Aside0 (wc.heap[gb305]? = some (.cells #[.int .i64 a0_0, .int .i64 a0_1, .bool a0_2] 25 (0, 0))) ∧ Aside0 (wc.heap[gb306]? = some (.cells #[.int .i64 a1_0, .int .i64 a1_1, .bool a1_2] 25 (0, 0))) ∧ Aside0 (wc.heap[gb307]? = some (.cells #[.int .i64 0, .int .i64 0, .bool false] 25 (0, 0))) ∧ Aside0 (Below w.heap.size w wc))
 case first =>
  have H := HC3.out
  clear HC3
  replace H := Option.bind_eq_some_iff.mp H
  obtain ⟨t308, A70, H⟩ := H
  have A7 := Aside0.mk A70
  clear A70
  by_cases c8 : t308 = true
  ·subst c8
   rw [if_pos rfl] at H
   replace H := Option.bind_eq_some_iff.mp H
   obtain ⟨t309, A90, H⟩ := H
   have A9 := Aside0.mk A90
   clear A90
   have H' := Aside0.mk H
   clear H
   obtain ⟨hnb10, hnc10⟩ := nB NB305_306
   obtain ⟨hnb11, hnc11⟩ := nB NB305_307
   obtain ⟨hcz12_0, hcz12_1, hcz12_2, hfz12_0, hfz12_1, hfz12_2⟩ := bK3 (w := w6) BK305
   go_wp2_with (first | ((with_reducible refine gate_callee (f := 55) rfl ?_); refine gL (some 6) Try.func55 #[.agg #[.int .i64 a0_0, .int .i64 a0_1, .bool a0_2]] ?_; (with_reducible refine (spec_PointOk.calls a0_0 a0_1 a0_2 true _ A7.out).mono ?_); rintro e w13 ⟨rfl, hb⟩; refine ⟨_, rfl, ?_⟩; replace BK305 := bB BK305 hb; replace BK306 := bB BK306 hb; replace BK307 := bB BK307 hb; replace HB := bS HB hb; (try clear hb); obtain ⟨hnb14, hnc14⟩ := nB NB306_307; obtain ⟨hcz15_0, hcz15_1, hcz15_2, hfz15_0, hfz15_1, hfz15_2⟩ := bK3 (w := w13) BK306) | (go_at_call 55; (with_reducible refine (spec_PointOk.calls a1_0 a1_1 a1_2 t309 _ A9.out).mono ?_); rintro e w16 ⟨rfl, hb⟩; replace BK305 := bB BK305 hb; replace BK306 := bB BK306 hb; replace BK307 := bB BK307 hb; replace HB := bS HB hb; (try clear hb)))
   go_meet
   case rel => exact ⟨_, (!t309), rS, H', ⟨by first | omega | exact Nat.le_refl _⟩, ⟨bP BK305⟩, ⟨bP BK306⟩, ⟨bP BK307⟩, ⟨bZ HB⟩⟩
  ·replace c8 := Bool.eq_false_iff.mpr c8
   subst c8
   rw [if_neg (show ¬ (false = true) by decide)] at H
   have H' := Aside0.mk H
   clear H
   obtain ⟨hnb17, hnc17⟩ := nB NB305_306
   obtain ⟨hnb18, hnc18⟩ := nB NB305_307
   obtain ⟨hcz19_0, hcz19_1, hcz19_2, hfz19_0, hfz19_1, hfz19_2⟩ := bK3 (w := w6) BK305
   go_wp2_with (first | ((with_reducible refine gate_callee (f := 55) rfl ?_); refine gL (some 6) Try.func55 #[.agg #[.int .i64 a0_0, .int .i64 a0_1, .bool a0_2]] ?_; (with_reducible refine (spec_PointOk.calls a0_0 a0_1 a0_2 false _ A7.out).mono ?_); rintro e w20 ⟨rfl, hb⟩; refine ⟨_, rfl, ?_⟩; replace BK305 := bB BK305 hb; replace BK306 := bB BK306 hb; replace BK307 := bB BK307 hb; replace HB := bS HB hb; (try clear hb)))
   go_meet
   case rel => exact ⟨_, (true), rS, H', ⟨by first | omega | exact Nat.le_refl _⟩, ⟨bP BK305⟩, ⟨bP BK306⟩, ⟨bP BK307⟩, ⟨bZ HB⟩⟩
 case rest =>
  clear HC3
  try clear c1
  try clear p2
  try clear c5
  try clear c8
  try clear c10
  try clear c11
  try clear c14
  try clear c17
  try clear c18
  try clear hcz12_0
  try clear hcz12_1
  try clear hcz12_2
  try clear hcz15_0
  try clear hcz15_1
  try clear hcz15_2
  try clear hcz19_0
  try clear hcz19_1
  try clear hcz19_2
  try clear hfz12_0
  try clear hfz12_1
  try clear hfz12_2
  try clear hfz15_0
  try clear hfz15_1
  try clear hfz15_2
  try clear hfz19_0
  try clear hfz19_1
  try clear hfz19_2
  obtain ⟨kq, x12_2, rfl, HA, HJ2, BK305, BK306, BK307, HB⟩ := hcut
  cases kq with
  | zero => exact absurd HA.out (by simp [spec_PointAdd.j0])
  | succ kj2 =>
   have H := HA.out
   clear HA
   simp only [spec_PointAdd.j0] at H
   by_cases c21 : x12_2 = true
   ·subst c21
    rw [if_pos rfl] at H
    replace H := Option.bind_eq_some_iff.mp H
    obtain ⟨⟨t310, t311, t312⟩, A220, H⟩ := H
    have A22 := Aside0.mk A220
    clear A220
    simp only [Option.some.injEq, Prod.mk.injEq] at H
    obtain ⟨rfl, rfl, rfl⟩ := H
    go_wp2_with (first | ((with_reducible refine gate_callee (f := 78) rfl ?_); refine gL (some 13) Try.func78 #[] ?_; (with_reducible refine (spec_l07Zero.calls  t310 t311 t312 _ A22.out).mono ?_); rintro e w23 ⟨rfl, hb⟩; refine ⟨_, rfl, ?_⟩; replace BK305 := bB BK305 hb; replace BK306 := bB BK306 hb; replace BK307 := bB BK307 hb; replace HB := bS HB hb; (try clear hb); obtain ⟨hnb24, hnc24⟩ := nB NB307_305; obtain ⟨hnb25, hnc25⟩ := nB NB307_306; obtain ⟨hcz26_0, hcz26_1, hcz26_2, hfz26_0, hfz26_1, hfz26_2⟩ := bK3 (w := w23) BK307))
    refine rC gb307 25 #[.int .i64 t310, .int .i64 t311, .bool t312] (bU BK307) Try.underlying25 ?_
    exact ⟨rR, bZ HB⟩
   ·replace c21 := Bool.eq_false_iff.mpr c21
    subst c21
    rw [if_neg (show ¬ (false = true) by decide)] at H
    replace H := Option.bind_eq_some_iff.mp H
    obtain ⟨⟨t313, t314, t315⟩, A270, H⟩ := H
    have A27 := Aside0.mk A270
    clear A270
    simp only [Option.some.injEq, Prod.mk.injEq] at H
    obtain ⟨rfl, rfl, rfl⟩ := H
    obtain ⟨hnb28, hnc28⟩ := nB NB305_306
    obtain ⟨hnb29, hnc29⟩ := nB NB305_307
    obtain ⟨hcz30_0, hcz30_1, hcz30_2, hfz30_0, hfz30_1, hfz30_2⟩ := bK3 (w := wc) BK305
    obtain ⟨hnb31, hnc31⟩ := nB NB306_307
    obtain ⟨hcz32_0, hcz32_1, hcz32_2, hfz32_0, hfz32_1, hfz32_2⟩ := bK3 (w := wc) BK306
    go_wp2_with (first | ((with_reducible refine gate_callee (f := 80) rfl ?_); refine gL (some 16) Try.func80 #[.agg #[.int .i64 a0_0, .int .i64 a0_1, .bool a0_2], .agg #[.int .i64 a1_0, .int .i64 a1_1, .bool a1_2]] ?_; (with_reducible refine (spec_l07Add.calls kj2 a0_0 a0_1 a0_2 a1_0 a1_1 a1_2 t313 t314 t315 _ A27.out).mono ?_); rintro e w33 ⟨rfl, hb⟩; refine ⟨_, rfl, ?_⟩; replace BK305 := bB BK305 hb; replace BK306 := bB BK306 hb; replace BK307 := bB BK307 hb; replace HB := bS HB hb; (try clear hb); obtain ⟨hcz34_0, hcz34_1, hcz34_2, hfz34_0, hfz34_1, hfz34_2⟩ := bK3 (w := w33) BK307))
    refine rC gb307 25 #[.int .i64 t313, .int .i64 t314, .bool t315] (bU BK307) Try.underlying25 ?_
    exact ⟨rR, bZ HB⟩
/-! ### spec_SumPoints: function 35 -/
def spec_SumPoints.l0 : Nat → List (S25) → Int → Int → Int → Bool → Option (Int × Int × Bool)
 | 0, _, _, _, _, _ => none
 | k + 1, x0, x4, x321000, x321001, x321002 => if x4 < (x0.length : Int) then (if 0 ≤ x4 then ((spec_PointAdd.f k x321000 x321001 x321002 ((rd_T25 x0 x4).f0) ((rd_T25 x0 x4).f1) ((rd_T25 x0 x4).f2)).bind fun bt322 => (spec_SumPoints.l0 k x0 (wrap64 (x4 + 1)) bt322.1 bt322.2.1 bt322.2.2)) else (none)) else (some (x321000, x321001, x321002))
def spec_SumPoints.f (k : Nat) (l0 : List (S25)) : Option (Int × Int × Bool) := (spec_l07Zero.f).bind fun bt317 => (spec_SumPoints.l0 k l0 0 bt317.1 bt317.2.1 bt317.2.2)
theorem spec_SumPoints.mono_l : ∀ k, (∀ y0 y1 y2 y3 y4, LeO (spec_SumPoints.l0 k y0 y1 y2 y3 y4) (spec_SumPoints.l0 (k + 1) y0 y1 y2 y3 y4))
 | 0 => fun _ _ _ _ _ r h => by simp [spec_SumPoints.l0] at h
 | k + 1 => by
  have ih0 := spec_SumPoints.mono_l k
  ·intro y0 y1 y2 y3 y4
   unfold spec_SumPoints.l0
   repeat' first
   | (with_reducible exact ih0 _ _ _ _ _)
   | (with_reducible exact spec_PointAdd.mono _ _ _ _ _ _ _)
   | (with_reducible exact LeO.refl _)
   | (with_reducible exact LeO.none _)
   | (with_reducible refine LeO.ite ?_ ?_)
   | (with_reducible refine LeO.bind ?_ (fun _ => ?_))
   | exact ih0 _ _ _ _ _
   | exact spec_PointAdd.mono _ _ _ _ _ _ _
   | exact LeO.none _
   | refine LeO.ite ?_ ?_
   | refine LeO.bind ?_ (fun _ => ?_)
theorem spec_SumPoints.mono : ∀ a0 k, LeO (spec_SumPoints.f k a0) (spec_SumPoints.f (k + 1) a0) := by
 intro a0 k
 have ih0 := spec_SumPoints.mono_l k
 unfold spec_SumPoints.f
 repeat' first
   | (with_reducible exact ih0 _ _ _ _ _)
   | (with_reducible exact spec_PointAdd.mono _ _ _ _ _ _ _)
   | (with_reducible exact LeO.refl _)
   | (with_reducible exact LeO.none _)
   | (with_reducible refine LeO.ite ?_ ?_)
   | (with_reducible refine LeO.bind ?_ (fun _ => ?_))
   | exact ih0 _ _ _ _ _
   | exact spec_PointAdd.mono _ _ _ _ _ _ _
   | exact LeO.none _
   | refine LeO.ite ?_ ?_
   | refine LeO.bind ?_ (fun _ => ?_)
set_option maxHeartbeats 8000000 in
set_option maxRecDepth 100000 in
theorem spec_SumPoints.calls (k : Nat) (A0 : Option Addr) (c0 : Nat) (l0 : List (S25)) (r1 : Int) (r2 : Int) (r3 : Bool) (w : World) (hr0 : Kd.C k25 w A0 l0.length l0) (hc0 : l0.length ≤ c0) (h : spec_SumPoints.f k l0 = some (r1, r2, r3)) :
  Calls Try.prog 35 #[.slice A0 l0.length c0] w fun e w' => e = .returned (.agg #[.int .i64 r1, .int .i64 r2, .bool r3]) ∧ Below w.heap.size w w' := by
 have hu25 := Try.underlying25
 have HR0 := Aside0.mk hr0
 have HC0 := Aside0.mk hc0
 clear hr0 hc0
 have HB := Aside0.mk (Below.refl w.heap.size w)
 have H : ((spec_l07Zero.f).bind fun bt317 => (spec_SumPoints.l0 k l0 0 bt317.1 bt317.2.1 bt317.2.2)) = some (r1, r2, r3) := h
 clear h
 replace H := Option.bind_eq_some_iff.mp H
 obtain ⟨⟨t317, t318, t319⟩, A20, H⟩ := H
 have A2 := Aside0.mk A20
 clear A20
 have H' := Aside0.mk H
 clear H
 go_enter Try.func35, Try.ntmps35
 go_wp2_with (first | ((with_reducible refine gate_dst (N := 2) rfl ?_); refine bE 2 #[.int .i64 0, .int .i64 0, .bool false] 25 ?_; intro gb316 hg w3 hbox hb; have BK316 := Aside0.mk (hbox); have GW316 := bG HB hg; have GE316 := bG HB hg; replace HB := bS HB hb; clear hb hbox hg) | ((with_reducible refine gate_callee (f := 78) rfl ?_); refine gL (some 5) Try.func78 #[] ?_; (with_reducible refine (spec_l07Zero.calls  t317 t318 t319 _ A2.out).mono ?_); rintro e w4 ⟨rfl, hb⟩; refine ⟨_, rfl, ?_⟩; replace BK316 := bB BK316 hb; replace HB := bS HB hb; (try clear hb)) | ((with_reducible refine gate_dst (N := 3) rfl ?_); refine bE 3 #[.int .i64 0, .int .i64 0, .bool false] 25 ?_; intro gb320 hg w5 hbox hb; have BK320 := Aside0.mk (hbox); have GW320 := bG HB hg; have GE320 := bG HB hg; replace HB := bS HB hb; have NB316_320 := bL BK316 hg; have NB320_316 := bR BK316 hg; replace BK316 := bB BK316 hb; clear hb hbox hg; obtain ⟨hnb6, hnc6⟩ := nB NB320_316; obtain ⟨hcz7_0, hcz7_1, hcz7_2, hfz7_0, hfz7_1, hfz7_2⟩ := bK3 (w := w5) BK320))
 go_loopg [4] k (fun kq v4 w' => ∃ (x4_1 : Int) (x321000_1 : Int) (x321001_1 : Int) (x321002_1 : Bool), v4 = .int .i64 x4_1 ∧ Aside0 (spec_SumPoints.l0 kq l0 x4_1 x321000_1 x321001_1 x321002_1 = some (r1, r2, r3)) ∧ Aside0 (kq ≤ k) ∧ Aside0 (w'.heap[gb316]? = some (.cells #[.int .i64 0, .int .i64 0, .bool false] 25 (0, 0))) ∧ Aside0 (w'.heap[gb320]? = some (.cells #[.int .i64 x321000_1, .int .i64 x321001_1, .bool x321002_1] 25 (0, 0))) ∧ Aside0 (Below w.heap.size w w'))
 case atStart => exact ⟨(0), (t317), (t318), (t319), rS, H', ⟨Nat.le_refl _⟩, ⟨bP BK316⟩, ⟨bU BK320⟩, ⟨bZ HB⟩⟩
 case round =>
  clear H'
  try clear p2
  try clear c3
  try clear c6
  try clear c7
  try clear hcz7_0
  try clear hcz7_1
  try clear hcz7_2
  try clear hfz7_0
  try clear hfz7_1
  try clear hfz7_2
  obtain ⟨x4_1, x321000_1, x321001_1, x321002_1, rfl, HA, HK1, BK316, BK320, HB⟩ := hrel
  cases gk with
  | zero => exact absurd HA.out (by simp [spec_SumPoints.l0])
  | succ k1 =>
   have H := HA.out
   clear HA
   simp only [spec_SumPoints.l0] at H
   by_cases c8 : x4_1 < (l0.length : Int)
   ·rw [if_pos c8] at H
    have c8b0 : decide (x4_1 < (l0.length : Int)) = true := decide_eq_true c8
    clear c8
    by_cases c9 : 0 ≤ x4_1
    ·rw [if_pos c9] at H
     have c9b0 : decide (0 ≤ x4_1) = true := decide_eq_true c9
     clear c9
     replace H := Option.bind_eq_some_iff.mp H
     obtain ⟨⟨t322, t323, t324⟩, A100, H⟩ := H
     have A10 := Aside0.mk A100
     clear A100
     have H' := Aside0.mk H
     clear H
     try go_wp2
     replace BK316 := Aside0.mk (blk_drew BK316.out)
     replace BK320 := Aside0.mk (blk_drew BK320.out)
     replace HB := Aside0.mk (below_drew1 HB.out)
     have p321 : 0 ≤ (x4_1 : Int) := of_decide_eq_true (by first | (with_reducible assumption) | assumption)
     have q321 : x4_1 < (l0.length : Int) := of_decide_eq_true (by first | (with_reducible assumption) | assumption)
     obtain ⟨ad321, e321, hx321_0, hx321_1, hx321_2⟩ := at_T25 HR0.out x4_1 p321 q321
     have hw321_2 := hx321_2
     have hw321_1 := hx321_1
     have hw321_0 := hx321_0
     cases e321
     replace hx321_0 := hC HB hx321_0
     replace hx321_1 := hC HB hx321_1
     replace hx321_2 := hC HB hx321_2
     replace p321 := eq_true p321
     replace q321 := eq_true q321
     refine start_ (n := 7) (S := fun w' => w'.cell? ⟨gb320, 0, none⟩ = some (.int .i64 x321000_1) ∧ w'.cell? ⟨gb320, 1, none⟩ = some (.int .i64 x321001_1) ∧ w'.cell? ⟨gb320, 2, none⟩ = some (.bool x321002_1) ∧ w'.cell? (ad321.add ((x4_1).toNat * 3)) = some (.int .i64 ((rd_T25 l0 x4_1).f0)) ∧ w'.cell? ⟨(ad321.add ((x4_1).toNat * 3)).block, (ad321.add ((x4_1).toNat * 3)).off + 1, none⟩ = some (.int .i64 ((rd_T25 l0 x4_1).f1)) ∧ w'.cell? ⟨(ad321.add ((x4_1).toNat * 3)).block, (ad321.add ((x4_1).toNat * 3)).off + 2, none⟩ = some (.bool ((rd_T25 l0 x4_1).f2))) (ds := [6]) #[false, false, false, false, false, false, false] (by kernel_rfl) rfl rfl ⟨bc BK320 0, bc BK320 1, bc BK320 2, (hC HB hw321_0), (hC HB hw321_1), (hC HB hw321_2)⟩ (fun hHeld => ?_)
     generalize wr.drew = w11 at BK316 BK320 HB hx321_0 hx321_1 hx321_2 hHeld ⊢
     refine pure_ (i := 1) (N := some 13) (v := ?_) (a' := ?_) #[false, true, false, false, false, false, false] rfl rfl (by kernel_rfl) (fun _ _ _ h => h) (Or.inl ⟨by rfl, ?_⟩) ?_ ?_
     rotate_left
     ·intro w'
      go_simp
      with_reducible rfl
     rotate_left
     ·simp only [Act.put, List.setIfInBounds_toArray, List.set_cons_zero, List.set_cons_succ, i64_w, i32_w]
      rfl
     refine pure_ (i := 2) (N := some 14) (v := ?_) (a' := ?_) #[false, true, true, false, false, false, false] rfl rfl (by kernel_rfl) (fun _ _ _ h => h) (Or.inl ⟨by rfl, ?_⟩) ?_ ?_
     rotate_left
     ·intro w'
      go_simp
      with_reducible rfl
     rotate_left
     ·simp only [Act.put, List.setIfInBounds_toArray, List.set_cons_zero, List.set_cons_succ, i64_w, i32_w]
      rfl
     refine pure_ (i := 3) (N := some 15) (v := ?_) (a' := ?_) #[false, true, true, true, false, false, false] rfl rfl (by kernel_rfl) (fun _ _ _ h => h) (Or.inl ⟨by rfl, ?_⟩) ?_ ?_
     rotate_left
     ·intro w'
      go_simp
      with_reducible rfl
     rotate_left
     ·simp only [Act.put, List.setIfInBounds_toArray, List.set_cons_zero, List.set_cons_succ, i64_w, i32_w]
      rfl
     refine take_ (i := 0) (N := some 12) (v := ?_) (a' := ?_) #[true, true, true, true, false, false, false] rfl rfl (by kernel_rfl) (fun _ _ _ h => h) (Or.inl ⟨by rfl, ?_⟩) hHeld ?_ ?_
     rotate_left
     ·rintro w' ⟨s0, s1, s2, s3, s4, s5⟩
      go_simp
      with_reducible rfl
     rotate_left
     ·simp only [Act.put, List.setIfInBounds_toArray, List.set_cons_zero, List.set_cons_succ, i64_w, i32_w]
      rfl
     refine take_ (i := 4) (N := some 16) (v := ?_) (a' := ?_) #[true, true, true, true, true, false, false] rfl rfl (by kernel_rfl) (fun _ _ _ h => h) (Or.inl ⟨by rfl, ?_⟩) hHeld ?_ ?_
     rotate_left
     ·rintro w' ⟨s0, s1, s2, s3, s4, s5⟩
      go_simp
      with_reducible rfl
     rotate_left
     ·simp only [Act.put, List.setIfInBounds_toArray, List.set_cons_zero, List.set_cons_succ, i64_w, i32_w]
      rfl
     refine one_ (i := 5) (N := some 17) #[true, true, true, true, true, true, false] rfl rfl (by kernel_rfl) (by decide) (fun K hK => ?_)
     refine gO Try.func53 #[.agg #[.int .i64 x321000_1, .int .i64 x321001_1, .bool x321002_1], .agg #[.int .i64 ((rd_T25 l0 x4_1).f0), .int .i64 ((rd_T25 l0 x4_1).f1), .bool ((rd_T25 l0 x4_1).f2)]] ?_
     with_reducible refine (spec_PointAdd.calls k1 x321000_1 x321001_1 x321002_1 ((rd_T25 l0 x4_1).f0) ((rd_T25 l0 x4_1).f1) ((rd_T25 l0 x4_1).f2) t322 t323 t324 _ A10.out).mono ?_
     rintro e w12 ⟨rfl, hb⟩
     refine ⟨_, rfl, ?_⟩
     replace BK316 := bB BK316 hb
     replace BK320 := bB BK320 hb
     replace HB := bS HB hb
     (try clear hb)
     refine hK.out _ _ ⟨bc BK320 0, bc BK320 1, bc BK320 2, (hC HB hw321_0), (hC HB hw321_1), (hC HB hw321_2)⟩ (fun hHeld => ?_)
     clear hK K
     refine nO (some 17) ?_
     refine last_ (i := 6) (N := none) #[true, true, true, true, true, true, true] rfl rfl (by kernel_rfl) (by decide) (fun K hK => ?_)
     have hs13 : w12.cell? ⟨gb320, 0, none⟩ = some (.int .i64 x321000_1) := bc BK320 0
     have hfs13 := blk_frozen BK320.out 0
     obtain ⟨hns13_0, hms13_0⟩ := nB NB316_320
     have hs14 : w12.cell? ⟨gb320, 1, none⟩ = some (.int .i64 x321001_1) := bc BK320 1
     have hfs14 := blk_frozen BK320.out 1
     obtain ⟨hns14_0, hms14_0⟩ := nB NB316_320
     have hs15 : w12.cell? ⟨gb320, 2, none⟩ = some (.bool x321002_1) := bc BK320 2
     have hfs15 := blk_frozen BK320.out 2
     obtain ⟨hns15_0, hms15_0⟩ := nB NB316_320
     refine skip_ (w1 := ?_) (by rfl) rfl ?_ ?_
     rotate_left
     ·go_simp
      rfl
     refine hK.out _ _ ?_
     clear hK K
     refine done_ (by kernel_rfl) ?_
     try go_wp2
     go_roundg k1
     case measure => have := HK1.out; omega
     case rel => exact ⟨(wrap64 (x4_1 + 1)), (t322), (t323), (t324), rS, H', ⟨by have := HK1.out; omega⟩, ⟨bP BK316⟩, ⟨bU BK320⟩, ⟨bZ HB⟩⟩
    ·rw [if_neg c9] at H
     exact absurd H (by simp)
   ·rw [if_neg c8] at H
    have c8b0 : decide (x4_1 < (l0.length : Int)) = false := decide_eq_false c8
    clear c8
    simp only [Option.some.injEq, Prod.mk.injEq] at H
    obtain ⟨rfl, rfl, rfl⟩ := H
    obtain ⟨hnb16, hnc16⟩ := nB NB320_316
    obtain ⟨hcz17_0, hcz17_1, hcz17_2, hfz17_0, hfz17_1, hfz17_2⟩ := bK3 (w := wr) BK320
    obtain ⟨hcz18_0, hcz18_1, hcz18_2, hfz18_0, hfz18_1, hfz18_2⟩ := bK3 (w := wr) BK316
    go_wp2
    refine rC gb316 25 #[.int .i64 x321000_1, .int .i64 x321001_1, .bool x321002_1] (bU BK316) Try.underlying25 ?_
    exact ⟨rR, bZ HB⟩
/-! ### impl_SumPoints: function 37 -/
def impl_SumPoints.l0 : Nat → List (S25) → Int → Int → Int → Int → Bool → Option (Int × Int × Bool)
 | 0, _, _, _, _, _, _ => none
 | k + 1, x7, x8, x9, x327000, x327001, x327002 => if x9 < x8 then (if 0 ≤ x9 then (if x9 < (x7.length : Int) then ((impl_PointAdd.f k x327000 x327001 x327002 ((rd_T25 x7 x9).f0) ((rd_T25 x7 x9).f1) ((rd_T25 x7 x9).f2)).bind fun bt329 => (impl_SumPoints.l0 k x7 x8 (wrap64 (x9 + 1)) bt329.1 bt329.2.1 bt329.2.2)) else (none)) else (none)) else (some (x327000, x327001, x327002))
def impl_SumPoints.f (k : Nat) (l0 : List (S25)) : Option (Int × Int × Bool) := impl_SumPoints.l0 k l0 (l0.length : Int) 0 0 0 true
theorem impl_SumPoints.mono_l : ∀ k, (∀ y0 y1 y2 y3 y4 y5, LeO (impl_SumPoints.l0 k y0 y1 y2 y3 y4 y5) (impl_SumPoints.l0 (k + 1) y0 y1 y2 y3 y4 y5))
 | 0 => fun _ _ _ _ _ _ r h => by simp [impl_SumPoints.l0] at h
 | k + 1 => by
  have ih0 := impl_SumPoints.mono_l k
  ·intro y0 y1 y2 y3 y4 y5
   unfold impl_SumPoints.l0
   repeat' first
   | (with_reducible exact ih0 _ _ _ _ _ _)
   | (with_reducible exact impl_PointAdd.mono _ _ _ _ _ _ _)
   | (with_reducible exact LeO.refl _)
   | (with_reducible exact LeO.none _)
   | (with_reducible refine LeO.ite ?_ ?_)
   | (with_reducible refine LeO.bind ?_ (fun _ => ?_))
   | exact ih0 _ _ _ _ _ _
   | exact impl_PointAdd.mono _ _ _ _ _ _ _
   | exact LeO.none _
   | refine LeO.ite ?_ ?_
   | refine LeO.bind ?_ (fun _ => ?_)
theorem impl_SumPoints.mono : ∀ a0 k, LeO (impl_SumPoints.f k a0) (impl_SumPoints.f (k + 1) a0) := by
 intro a0 k
 have ih0 := impl_SumPoints.mono_l k
 unfold impl_SumPoints.f
 repeat' first
   | (with_reducible exact ih0 _ _ _ _ _ _)
   | (with_reducible exact impl_PointAdd.mono _ _ _ _ _ _ _)
   | (with_reducible exact LeO.refl _)
   | (with_reducible exact LeO.none _)
   | (with_reducible refine LeO.ite ?_ ?_)
   | (with_reducible refine LeO.bind ?_ (fun _ => ?_))
   | exact ih0 _ _ _ _ _ _
   | exact impl_PointAdd.mono _ _ _ _ _ _ _
   | exact LeO.none _
   | refine LeO.ite ?_ ?_
   | refine LeO.bind ?_ (fun _ => ?_)
set_option maxHeartbeats 8000000 in
set_option maxRecDepth 100000 in
theorem impl_SumPoints.calls (k : Nat) (A0 : Option Addr) (c0 : Nat) (l0 : List (S25)) (r1 : Int) (r2 : Int) (r3 : Bool) (w : World) (hr0 : Kd.C k25 w A0 l0.length l0) (hc0 : l0.length ≤ c0) (h : impl_SumPoints.f k l0 = some (r1, r2, r3)) :
  Calls Try.prog 37 #[.slice A0 l0.length c0] w fun e w' => e = .returned (.agg #[.int .i64 r1, .int .i64 r2, .bool r3]) ∧ Below w.heap.size w w' := by
 have hu25 := Try.underlying25
 have HR0 := Aside0.mk hr0
 have HC0 := Aside0.mk hc0
 clear hr0 hc0
 have HB := Aside0.mk (Below.refl w.heap.size w)
 have H : (impl_SumPoints.l0 k l0 (l0.length : Int) 0 0 0 true) = some (r1, r2, r3) := h
 clear h
 have H' := Aside0.mk H
 clear H
 go_enter Try.func37, Try.ntmps37
 go_wp2_with (first | ((with_reducible refine gate_dst (N := 2) rfl ?_); refine bE 2 #[.int .i64 0, .int .i64 0, .bool false] 25 ?_; intro gb325 hg w2 hbox hb; have BK325 := Aside0.mk (hbox); have GW325 := bG HB hg; have GE325 := bG HB hg; replace HB := bS HB hb; clear hb hbox hg) | ((with_reducible refine gate_dst (N := 3) rfl ?_); refine bE 3 #[.int .i64 0, .int .i64 0, .bool false] 25 ?_; intro gb326 hg w3 hbox hb; have BK326 := Aside0.mk (hbox); have GW326 := bG HB hg; have GE326 := bG HB hg; replace HB := bS HB hb; have NB325_326 := bL BK325 hg; have NB326_325 := bR BK325 hg; replace BK325 := bB BK325 hb; clear hb hbox hg; obtain ⟨hnb4, hnc4⟩ := nB NB326_325; obtain ⟨hcz5_0, hcz5_1, hcz5_2, hfz5_0, hfz5_1, hfz5_2⟩ := bK3 (w := w3) BK326))
 go_loopg [9] k (fun kq v9 w' => ∃ (x9_1 : Int) (x327000_1 : Int) (x327001_1 : Int) (x327002_1 : Bool), v9 = .int .i64 x9_1 ∧ Aside0 (impl_SumPoints.l0 kq l0 (l0.length : Int) x9_1 x327000_1 x327001_1 x327002_1 = some (r1, r2, r3)) ∧ Aside0 (kq ≤ k) ∧ Aside0 (w'.heap[gb325]? = some (.cells #[.int .i64 0, .int .i64 0, .bool false] 25 (0, 0))) ∧ Aside0 (w'.heap[gb326]? = some (.cells #[.int .i64 x327000_1, .int .i64 x327001_1, .bool x327002_1] 25 (0, 0))) ∧ Aside0 (Below w.heap.size w w'))
 case atStart => exact ⟨(0), (0), (0), (true), rS, H', ⟨Nat.le_refl _⟩, ⟨bP BK325⟩, ⟨bU BK326⟩, ⟨bZ HB⟩⟩
 case round =>
  clear H'
  try clear p2
  try clear c3
  try clear c4
  try clear hcz5_0
  try clear hcz5_1
  try clear hcz5_2
  try clear hfz5_0
  try clear hfz5_1
  try clear hfz5_2
  obtain ⟨x9_1, x327000_1, x327001_1, x327002_1, rfl, HA, HK1, BK325, BK326, HB⟩ := hrel
  cases gk with
  | zero => exact absurd HA.out (by simp [impl_SumPoints.l0])
  | succ k1 =>
   have H := HA.out
   clear HA
   simp only [impl_SumPoints.l0] at H
   by_cases c6 : x9_1 < (l0.length : Int)
   ·rw [if_pos c6] at H
    have c6b0 : decide (x9_1 < (l0.length : Int)) = true := decide_eq_true c6
    clear c6
    by_cases c7 : 0 ≤ x9_1
    ·rw [if_pos c7] at H
     have c7b0 : decide (0 ≤ x9_1) = true := decide_eq_true c7
     clear c7
     by_cases c8 : x9_1 < (l0.length : Int)
     ·rw [if_pos c8] at H
      have c8b0 : decide (x9_1 < (l0.length : Int)) = true := decide_eq_true c8
      clear c8
      replace H := Option.bind_eq_some_iff.mp H
      obtain ⟨⟨t329, t330, t331⟩, A90, H⟩ := H
      have A9 := Aside0.mk A90
      clear A90
      have H' := Aside0.mk H
      clear H
      have p327 : 0 ≤ (x9_1 : Int) := of_decide_eq_true (by first | (with_reducible assumption) | assumption)
      have q327 : x9_1 < (l0.length : Int) := of_decide_eq_true (by first | (with_reducible assumption) | assumption)
      obtain ⟨ad327, e327, hx327_0, hx327_1, hx327_2⟩ := at_T25 HR0.out x9_1 p327 q327
      cases e327
      replace hx327_0 := hC HB hx327_0
      replace hx327_1 := hC HB hx327_1
      replace hx327_2 := hC HB hx327_2
      replace p327 := eq_true p327
      replace q327 := eq_true q327
      go_wp2_with (first | ((with_reducible refine gate_dst (N := 5) rfl ?_); refine bE 5 #[.int .i64 0, .int .i64 0, .bool false] 25 ?_; intro gb328 hg w10 hbox hb; have BK328 := Aside0.mk (hbox); have GW328 := bG HB hg; have GE328 := bG HB hg; replace HB := bS HB hb; have NB325_328 := bL BK325 hg; have NB328_325 := bR BK325 hg; replace BK325 := bB BK325 hb; have NB326_328 := bL BK326 hg; have NB328_326 := bR BK326 hg; replace BK326 := bB BK326 hb; clear hb hbox hg; obtain ⟨hnb11, hnc11⟩ := nB NB328_325; obtain ⟨hnb12, hnc12⟩ := nB NB328_326; obtain ⟨hcz13_0, hcz13_1, hcz13_2, hfz13_0, hfz13_1, hfz13_2⟩ := bK3 (w := w10) BK328; obtain ⟨hnb14, hnc14⟩ := nB NB326_325; obtain ⟨hcz15_0, hcz15_1, hcz15_2, hfz15_0, hfz15_1, hfz15_2⟩ := bK3 (w := w10) BK326) | ((with_reducible refine gate_callee (f := 19) rfl ?_); refine gL (some 15) Try.func19 #[.agg #[.int .i64 x327000_1, .int .i64 x327001_1, .bool x327002_1], .agg #[.int .i64 ((rd_T25 l0 x9_1).f0), .int .i64 ((rd_T25 l0 x9_1).f1), .bool ((rd_T25 l0 x9_1).f2)]] ?_; (with_reducible refine (impl_PointAdd.calls k1 x327000_1 x327001_1 x327002_1 ((rd_T25 l0 x9_1).f0) ((rd_T25 l0 x9_1).f1) ((rd_T25 l0 x9_1).f2) t329 t330 t331 _ A9.out).mono ?_); rintro e w16 ⟨rfl, hb⟩; refine ⟨_, rfl, ?_⟩; replace BK325 := bB BK325 hb; replace BK326 := bB BK326 hb; replace BK328 := bV 25 #[.int .i64 ((rd_T25 l0 x9_1).f0), .int .i64 ((rd_T25 l0 x9_1).f1), .bool ((rd_T25 l0 x9_1).f2)] BK328 hb; replace HB := bS HB hb; (try clear hb); obtain ⟨hcz17_0, hcz17_1, hcz17_2, hfz17_0, hfz17_1, hfz17_2⟩ := bK3 (w := w16) BK326))
      go_roundg k1
      case measure => have := HK1.out; omega
      case rel => exact ⟨(wrap64 (x9_1 + 1)), (t329), (t330), (t331), rS, H', ⟨by have := HK1.out; omega⟩, ⟨bP BK325⟩, ⟨bU BK326⟩, ⟨bZ HB⟩⟩
     ·rw [if_neg c8] at H
      exact absurd H (by simp)
    ·rw [if_neg c7] at H
     exact absurd H (by simp)
   ·rw [if_neg c6] at H
    have c6b0 : decide (x9_1 < (l0.length : Int)) = false := decide_eq_false c6
    clear c6
    simp only [Option.some.injEq, Prod.mk.injEq] at H
    obtain ⟨rfl, rfl, rfl⟩ := H
    obtain ⟨hnb18, hnc18⟩ := nB NB326_325
    obtain ⟨hcz19_0, hcz19_1, hcz19_2, hfz19_0, hfz19_1, hfz19_2⟩ := bK3 (w := wr) BK326
    obtain ⟨hcz20_0, hcz20_1, hcz20_2, hfz20_0, hfz20_1, hfz20_2⟩ := bK3 (w := wr) BK325
    go_wp2
    refine rC gb325 25 #[.int .i64 x327000_1, .int .i64 x327001_1, .bool x327002_1] (bU BK325) Try.underlying25 ?_
    exact ⟨rR, bZ HB⟩
/-! ### impl_PointText: function 43 -/
def impl_PointText.f (a0_0 : Int) (a0_1 : Int) (a0_2 : Bool) : Option (ByteArray) := (impl_PointOk.f a0_0 a0_1 a0_2).bind fun t333 => (if t333 = true then (if a0_2 = true then (some (⟨#[0, 0, 0]⟩ : ByteArray)) else (some (strOfNums (([((wrap64 (a0_0 + 1)) / 256) % 256, (wrap64 (a0_0 + 1)) % 256, (Int.tmod a0_1 2) % 256] : List Int))))) else (some (⟨#[]⟩ : ByteArray)))
set_option maxHeartbeats 8000000 in
set_option maxRecDepth 100000 in
theorem impl_PointText.calls (a0_0 : Int) (a0_1 : Int) (a0_2 : Bool) (r : ByteArray) (w : World) (h : impl_PointText.f a0_0 a0_1 a0_2 = some r) :
  Calls Try.prog 43 #[.agg #[.int .i64 a0_0, .int .i64 a0_1, .bool a0_2]] w fun e w' => e = .returned (.string r) ∧ Below w.heap.size w w' := by
 have hu25 := Try.underlying25
 have HB := Aside0.mk (Below.refl w.heap.size w)
 have H : ((impl_PointOk.f a0_0 a0_1 a0_2).bind fun t333 => (if t333 = true then (if a0_2 = true then (some (⟨#[0, 0, 0]⟩ : ByteArray)) else (some (strOfNums (([((wrap64 (a0_0 + 1)) / 256) % 256, (wrap64 (a0_0 + 1)) % 256, (Int.tmod a0_1 2) % 256] : List Int))))) else (some (⟨#[]⟩ : ByteArray)))) = some r := h
 clear h
 replace H := Option.bind_eq_some_iff.mp H
 obtain ⟨t333, A20, H⟩ := H
 have A2 := Aside0.mk A20
 clear A20
 by_cases c3 : t333 = true
 ·subst c3
  rw [if_pos rfl] at H
  by_cases c4 : a0_2 = true
  ·subst c4
   rw [if_pos rfl] at H
   obtain rfl := Option.some.inj H
   go_enter Try.func43, Try.ntmps43
   go_wp2_with (first | ((with_reducible refine gate_dst (N := 1) rfl ?_); refine bE 1 #[.int .i64 a0_0, .int .i64 a0_1, .bool true] 25 ?_; intro gb332 hg w5 hbox hb; have BK332 := Aside0.mk (hbox); have GW332 := bG HB hg; have GE332 := bG HB hg; replace HB := bS HB hb; clear hb hbox hg; obtain ⟨hcz6_0, hcz6_1, hcz6_2, hfz6_0, hfz6_1, hfz6_2⟩ := bK3 (w := w5) BK332) | ((with_reducible refine gate_callee (f := 31) rfl ?_); refine gL (some 5) Try.func31 #[.agg #[.int .i64 a0_0, .int .i64 a0_1, .bool true]] ?_; (with_reducible refine (impl_PointOk.calls a0_0 a0_1 true true _ A2.out).mono ?_); rintro e w7 ⟨rfl, hb⟩; refine ⟨_, rfl, ?_⟩; replace BK332 := bB BK332 hb; replace HB := bS HB hb; (try clear hb); obtain ⟨hcz8_0, hcz8_1, hcz8_2, hfz8_0, hfz8_1, hfz8_2⟩ := bK3 (w := w7) BK332))
   go_ret
   exact ⟨rR, bZ HB⟩
  ·replace c4 := Bool.eq_false_iff.mpr c4
   subst c4
   rw [if_neg (show ¬ (false = true) by decide)] at H
   obtain ⟨y334, hy334⟩ : ∃ y_ : List Int, y_ = (([((wrap64 (a0_0 + 1)) / 256) % 256, (wrap64 (a0_0 + 1)) % 256, (Int.tmod a0_1 2) % 256] : List Int)) := ⟨_, rfl⟩
   replace H : (some (strOfNums y334)) = some r := by first | (rw [hy334]; with_reducible exact H) | (have H2_ := (Option.bind_some _ _).symm.trans H; rw [hy334]; with_reducible exact H2_) | (have H2_ := (Option.bind_some _ _).symm.trans H; with_reducible exact H2_) | with_reducible exact H | (rw [hy334]; exact H) | exact H
   have Ny334 := Aside0.mk hy334
   clear hy334
   obtain rfl := Option.some.inj H
   go_enter Try.func43, Try.ntmps43
   go_wp2_with (first | ((with_reducible refine gate_dst (N := 1) rfl ?_); refine bE 1 #[.int .i64 a0_0, .int .i64 a0_1, .bool false] 25 ?_; intro gb332 hg w9 hbox hb; have BK332 := Aside0.mk (hbox); have GW332 := bG HB hg; have GE332 := bG HB hg; replace HB := bS HB hb; clear hb hbox hg; obtain ⟨hcz10_0, hcz10_1, hcz10_2, hfz10_0, hfz10_1, hfz10_2⟩ := bK3 (w := w9) BK332) | ((with_reducible refine gate_callee (f := 31) rfl ?_); refine gL (some 5) Try.func31 #[.agg #[.int .i64 a0_0, .int .i64 a0_1, .bool false]] ?_; (with_reducible refine (impl_PointOk.calls a0_0 a0_1 false true _ A2.out).mono ?_); rintro e w11 ⟨rfl, hb⟩; refine ⟨_, rfl, ?_⟩; replace BK332 := bB BK332 hb; replace HB := bS HB hb; (try clear hb); obtain ⟨hcz12_0, hcz12_1, hcz12_2, hfz12_0, hfz12_1, hfz12_2⟩ := bK3 (w := w11) BK332) | ((with_reducible refine gate_dst (N := 21) rfl ?_); refine Kd.R_lit (Kd.int .u8) _ 5 ?hg (N := 21) ?hd (xs := ([((wrap64 (a0_0 + 1)) / 256) % 256, (wrap64 (a0_0 + 1)) % 256, (Int.tmod a0_1 2) % 256] : List Int)) (inner := [.int .u8 (((wrap64 (a0_0 + 1)) / 256) % 256), .int .u8 ((wrap64 (a0_0 + 1)) % 256), .int .u8 ((Int.tmod a0_1 2) % 256)]) (ok := fun _ => True) (okp := fun _ => True) ?hr ?hp (fun _ hk => hk) trivial (Below.refl _ _) (Nat.le_refl _) (by simp) ?_; (case hd => rfl); (case hg => rfl); (case hr => first | (go_simp; done) | (go_simp; rfl)); (case hp => exact (Reps.one (show Kd.M (Kd.int .u8) _ _ _ (((wrap64 (a0_0 + 1)) / 256) % 256) [.int .u8 (((wrap64 (a0_0 + 1)) / 256) % 256)] from rfl) (Reps.one (show Kd.M (Kd.int .u8) _ _ _ ((wrap64 (a0_0 + 1)) % 256) [.int .u8 ((wrap64 (a0_0 + 1)) % 256)] from rfl) (Reps.one (show Kd.M (Kd.int .u8) _ _ _ ((Int.tmod a0_1 2) % 256) [.int .u8 ((Int.tmod a0_1 2) % 256)] from rfl) (Reps.none _ _))))); intro v335 w13 ho14 hb hg_ hnew_; clear hg_ hnew_; (first | rw [← Ny334.out] at ho14 | (simp only [Int.reduceToNat] at ho14; rw [← Ny334.out] at ho14)); have HO336 := Aside0.mk (Kd.R_lower ho14 (below_size (bZ HB))); replace BK332 := bB BK332 hb; replace HB := bS HB hb; clear hb ho14; have hcv15 := own_string (P := Try.prog) Try.underlying22 Try.underlying5 Try.underlying9 (Kd.own_of_R HO336.out)))
   go_ret
   exact ⟨rR, bZ HB⟩
 ·replace c3 := Bool.eq_false_iff.mpr c3
  subst c3
  rw [if_neg (show ¬ (false = true) by decide)] at H
  obtain rfl := Option.some.inj H
  go_enter Try.func43, Try.ntmps43
  go_wp2_with (first | ((with_reducible refine gate_dst (N := 1) rfl ?_); refine bE 1 #[.int .i64 a0_0, .int .i64 a0_1, .bool a0_2] 25 ?_; intro gb332 hg w16 hbox hb; have BK332 := Aside0.mk (hbox); have GW332 := bG HB hg; have GE332 := bG HB hg; replace HB := bS HB hb; clear hb hbox hg; obtain ⟨hcz17_0, hcz17_1, hcz17_2, hfz17_0, hfz17_1, hfz17_2⟩ := bK3 (w := w16) BK332) | ((with_reducible refine gate_callee (f := 31) rfl ?_); refine gL (some 5) Try.func31 #[.agg #[.int .i64 a0_0, .int .i64 a0_1, .bool a0_2]] ?_; (with_reducible refine (impl_PointOk.calls a0_0 a0_1 a0_2 false _ A2.out).mono ?_); rintro e w18 ⟨rfl, hb⟩; refine ⟨_, rfl, ?_⟩; replace BK332 := bB BK332 hb; replace HB := bS HB hb; (try clear hb)))
  go_ret
  exact ⟨rR, bZ HB⟩
/-! ### impl_PointNeg: function 30 -/
def impl_PointNeg.f (a0_0 : Int) (a0_1 : Int) (a0_2 : Bool) : Option (Int × Int × Bool) := if a0_2 = true then (some (0, 0, true)) else ((impl_FpSub.f 0 a0_1).bind fun t339 => (some (a0_0, t339, false)))
set_option maxHeartbeats 8000000 in
set_option maxRecDepth 100000 in
theorem impl_PointNeg.calls (a0_0 : Int) (a0_1 : Int) (a0_2 : Bool) (r1 : Int) (r2 : Int) (r3 : Bool) (w : World) (h : impl_PointNeg.f a0_0 a0_1 a0_2 = some (r1, r2, r3)) :
  Calls Try.prog 30 #[.agg #[.int .i64 a0_0, .int .i64 a0_1, .bool a0_2]] w fun e w' => e = .returned (.agg #[.int .i64 r1, .int .i64 r2, .bool r3]) ∧ Below w.heap.size w w' := by
 have hu25 := Try.underlying25
 have HB := Aside0.mk (Below.refl w.heap.size w)
 have H : (if a0_2 = true then (some (0, 0, true)) else ((impl_FpSub.f 0 a0_1).bind fun t339 => (some (a0_0, t339, false)))) = some (r1, r2, r3) := h
 clear h
 by_cases c2 : a0_2 = true
 ·subst c2
  rw [if_pos rfl] at H
  simp only [Option.some.injEq, Prod.mk.injEq] at H
  obtain ⟨rfl, rfl, rfl⟩ := H
  go_enter Try.func30, Try.ntmps30
  go_wp2_with (first | ((with_reducible refine gate_dst (N := 1) rfl ?_); refine bE 1 #[.int .i64 a0_0, .int .i64 a0_1, .bool true] 25 ?_; intro gb337 hg w3 hbox hb; have BK337 := Aside0.mk (hbox); have GW337 := bG HB hg; have GE337 := bG HB hg; replace HB := bS HB hb; clear hb hbox hg) | ((with_reducible refine gate_dst (N := 2) rfl ?_); refine bE 2 #[.int .i64 0, .int .i64 0, .bool false] 25 ?_; intro gb338 hg w4 hbox hb; have BK338 := Aside0.mk (hbox); have GW338 := bG HB hg; have GE338 := bG HB hg; replace HB := bS HB hb; have NB337_338 := bL BK337 hg; have NB338_337 := bR BK337 hg; replace BK337 := bB BK337 hb; clear hb hbox hg; obtain ⟨hnb5, hnc5⟩ := nB NB337_338; obtain ⟨hcz6_0, hcz6_1, hcz6_2, hfz6_0, hfz6_1, hfz6_2⟩ := bK3 (w := w4) BK337; obtain ⟨hcz7_0, hcz7_1, hcz7_2, hfz7_0, hfz7_1, hfz7_2⟩ := bK3 (w := w4) BK338))
  refine rC gb338 25 #[.int .i64 0, .int .i64 0, .bool true] (bU BK338) Try.underlying25 ?_
  exact ⟨rR, bZ HB⟩
 ·replace c2 := Bool.eq_false_iff.mpr c2
  subst c2
  rw [if_neg (show ¬ (false = true) by decide)] at H
  replace H := Option.bind_eq_some_iff.mp H
  obtain ⟨t339, A80, H⟩ := H
  have A8 := Aside0.mk A80
  clear A80
  simp only [Option.some.injEq, Prod.mk.injEq] at H
  obtain ⟨rfl, rfl, rfl⟩ := H
  go_enter Try.func30, Try.ntmps30
  try go_wp2_with (first | ((with_reducible refine gate_dst (N := 1) rfl ?_); refine bE 1 #[.int .i64 a0_0, .int .i64 a0_1, .bool false] 25 ?_; intro gb337 hg w9 hbox hb; have BK337 := Aside0.mk (hbox); have GW337 := bG HB hg; have GE337 := bG HB hg; replace HB := bS HB hb; clear hb hbox hg) | ((with_reducible refine gate_dst (N := 2) rfl ?_); refine bE 2 #[.int .i64 0, .int .i64 0, .bool false] 25 ?_; intro gb338 hg w10 hbox hb; have BK338 := Aside0.mk (hbox); have GW338 := bG HB hg; have GE338 := bG HB hg; replace HB := bS HB hb; have NB337_338 := bL BK337 hg; have NB338_337 := bR BK337 hg; replace BK337 := bB BK337 hb; clear hb hbox hg; obtain ⟨hnb11, hnc11⟩ := nB NB337_338; obtain ⟨hcz12_0, hcz12_1, hcz12_2, hfz12_0, hfz12_1, hfz12_2⟩ := bK3 (w := w10) BK337))
  replace BK337 := Aside0.mk (blk_drew BK337.out)
  replace BK338 := Aside0.mk (blk_drew BK338.out)
  replace HB := Aside0.mk (below_drew1 HB.out)
  refine start_ (n := 7) (S := fun w' => SQ3 w' gb337 (.int .i64 a0_0) (.int .i64 a0_1) (.bool false)) (ds := []) #[false, false, false, false, false, false, false] (by kernel_rfl) rfl rfl (bT3 BK337) (fun hHeld => ?_)
  generalize w10.drew = w13 at BK337 BK338 HB hHeld ⊢
  refine pure_ (i := 0) (N := some 6) (v := ?_) (a' := ?_) #[true, false, false, false, false, false, false] rfl rfl (by kernel_rfl) (fun _ _ _ h => h) (Or.inl ⟨by rfl, ?_⟩) ?_ ?_
  rotate_left
  ·intro w'
   go_simp
   with_reducible rfl
  rotate_left
  ·simp only [Act.put, List.setIfInBounds_toArray, List.set_cons_zero, List.set_cons_succ, i64_w, i32_w]
   rfl
  refine pure_ (i := 2) (N := some 8) (v := ?_) (a' := ?_) #[true, false, true, false, false, false, false] rfl rfl (by kernel_rfl) (fun _ _ _ h => h) (Or.inl ⟨by rfl, ?_⟩) ?_ ?_
  rotate_left
  ·intro w'
   go_simp
   with_reducible rfl
  rotate_left
  ·simp only [Act.put, List.setIfInBounds_toArray, List.set_cons_zero, List.set_cons_succ, i64_w, i32_w]
   rfl
  refine take_ (i := 1) (N := some 7) (v := ?_) (a' := ?_) #[true, true, true, false, false, false, false] rfl rfl (by kernel_rfl) (fun _ _ _ h => h) (Or.inl ⟨by rfl, ?_⟩) hHeld ?_ ?_
  rotate_left
  ·rintro w' ⟨s0, s1, s2⟩
   go_simp
   with_reducible rfl
  rotate_left
  ·simp only [Act.put, List.setIfInBounds_toArray, List.set_cons_zero, List.set_cons_succ, i64_w, i32_w]
   rfl
  refine take_ (i := 3) (N := some 9) (v := ?_) (a' := ?_) #[true, true, true, true, false, false, false] rfl rfl (by kernel_rfl) (fun _ _ _ h => h) (Or.inl ⟨by rfl, ?_⟩) hHeld ?_ ?_
  rotate_left
  ·rintro w' ⟨s0, s1, s2⟩
   go_simp
   with_reducible rfl
  rotate_left
  ·simp only [Act.put, List.setIfInBounds_toArray, List.set_cons_zero, List.set_cons_succ, i64_w, i32_w]
   rfl
  refine one_ (i := 4) (N := some 10) #[true, true, true, true, true, false, false] rfl rfl (by kernel_rfl) (by decide) (fun K hK => ?_)
  refine gO Try.func67 #[.int .i64 0, .int .i64 a0_1] ?_
  with_reducible refine (impl_FpSub.calls 0 a0_1 t339 _ A8.out).mono ?_
  rintro e w' ⟨rfl, ⟨nd, rfl⟩⟩
  refine ⟨_, rfl, ?_⟩
  refine hK.out _ _ (bT3 BK337) (fun hHeld => ?_)
  clear hK K
  refine nO (some 10) ?_
  refine pure_ (i := 5) (N := some 11) (v := ?_) (a' := ?_) #[true, true, true, true, true, true, false] rfl rfl (by kernel_rfl) (fun _ _ _ h => h) (Or.inl ⟨by rfl, ?_⟩) ?_ ?_
  rotate_left
  ·intro w'
   go_simp
   with_reducible rfl
  rotate_left
  ·simp only [Act.put, List.setIfInBounds_toArray, List.set_cons_zero, List.set_cons_succ, i64_w, i32_w]
   rfl
  refine one_ (i := 6) (N := none) #[true, true, true, true, true, true, true] rfl rfl (by kernel_rfl) (by decide) (fun K hK => ?_)
  have hs14 : w13.cell? ⟨gb338, 0, none⟩ = some (.int .i64 0) := bc BK338 0
  have hfs14 := blk_frozen BK338.out 0
  obtain ⟨hns14_0, hms14_0⟩ := nB NB337_338
  have hs15 : w13.cell? ⟨gb338, 1, none⟩ = some (.int .i64 0) := bc BK338 1
  have hfs15 := blk_frozen BK338.out 1
  obtain ⟨hns15_0, hms15_0⟩ := nB NB337_338
  have hs16 : w13.cell? ⟨gb338, 2, none⟩ = some (.bool false) := bc BK338 2
  have hfs16 := blk_frozen BK338.out 2
  obtain ⟨hns16_0, hms16_0⟩ := nB NB337_338
  refine skip_ (w1 := ?_) (by rfl) rfl ?_ ?_
  rotate_left
  ·go_simp
   rfl
  refine hK.out _ _ ⟨((cell_far (p := ⟨gb338, _, none⟩) NB337_338.out _).trans (((cell_far (p := ⟨gb338, _, none⟩) NB337_338.out _).trans (((cell_far (p := ⟨gb338, _, none⟩) NB337_338.out _).trans (hHeld.1)))))), ((cell_far (p := ⟨gb338, _, none⟩) NB337_338.out _).trans (((cell_far (p := ⟨gb338, _, none⟩) NB337_338.out _).trans (((cell_far (p := ⟨gb338, _, none⟩) NB337_338.out _).trans (hHeld.2.1)))))), ((cell_far (p := ⟨gb338, _, none⟩) NB337_338.out _).trans (((cell_far (p := ⟨gb338, _, none⟩) NB337_338.out _).trans (((cell_far (p := ⟨gb338, _, none⟩) NB337_338.out _).trans (hHeld.2.2))))))⟩ (fun hHeld => ?_)
  clear hK K
  refine done_ (by kernel_rfl) ?_
  try go_wp2
  refine rC gb338 25 #[.int .i64 a0_0, .int .i64 t339, .bool false] (bU BK338) Try.underlying25 ?_
  exact ⟨rR, bZ HB⟩
/-! ### impl_FpRoot: function 88 -/
def impl_FpRoot.f (k : Nat) (a0 : Int) : Option (Int × Bool) := (impl_powerMod.f k a0 3027 12107).bind fun t340 => ((impl_FpMul.f t340 t340).bind fun t341 => ((impl_FpOf.f a0).bind fun t342 => (if t341 = t342 then ((impl_FpOf.f (wrap64 (-t340))).bind fun t343 => (some (mn t340 t343, true))) else (some (0, false)))))
theorem impl_FpRoot.mono : ∀ a0 k, LeO (impl_FpRoot.f k a0) (impl_FpRoot.f (k + 1) a0) := by
 intro a0 k
 unfold impl_FpRoot.f
 repeat' first
   | (with_reducible exact impl_powerMod.mono _ _ _ _)
   | (with_reducible exact LeO.refl _)
   | (with_reducible exact LeO.none _)
   | (with_reducible refine LeO.ite ?_ ?_)
   | (with_reducible refine LeO.bind ?_ (fun _ => ?_))
   | exact impl_powerMod.mono _ _ _ _
   | exact LeO.none _
   | refine LeO.ite ?_ ?_
   | refine LeO.bind ?_ (fun _ => ?_)
set_option maxHeartbeats 8000000 in
set_option maxRecDepth 100000 in
theorem impl_FpRoot.calls (k : Nat) (a0 : Int) (r1 : Int) (r2 : Bool) (w : World) (h : impl_FpRoot.f k a0 = some (r1, r2)) :
  Calls Try.prog 88 #[.int .i64 a0] w fun e w' => e = .returned (.tuple #[.int .i64 r1, .bool r2]) ∧ Below w.heap.size w w' := by
 have HB := Aside0.mk (Below.refl w.heap.size w)
 have H : ((impl_powerMod.f k a0 3027 12107).bind fun t340 => ((impl_FpMul.f t340 t340).bind fun t341 => ((impl_FpOf.f a0).bind fun t342 => (if t341 = t342 then ((impl_FpOf.f (wrap64 (-t340))).bind fun t343 => (some (mn t340 t343, true))) else (some (0, false)))))) = some (r1, r2) := h
 clear h
 replace H := Option.bind_eq_some_iff.mp H
 obtain ⟨t340, A20, H⟩ := H
 have A2 := Aside0.mk A20
 clear A20
 replace H := Option.bind_eq_some_iff.mp H
 obtain ⟨t341, A30, H⟩ := H
 have A3 := Aside0.mk A30
 clear A30
 replace H := Option.bind_eq_some_iff.mp H
 obtain ⟨t342, A40, H⟩ := H
 have A4 := Aside0.mk A40
 clear A40
 by_cases c5 : t341 = t342
 ·rw [if_pos c5] at H
  have c5b0 : (t341 == t342) = true := beq_iff_eq.mpr c5
  have c5b1 : (t341 != t342) = false := bne_eq_false_iff_eq.mpr c5
  clear c5
  replace H := Option.bind_eq_some_iff.mp H
  obtain ⟨t343, A60, H⟩ := H
  have A6 := Aside0.mk A60
  clear A60
  obtain ⟨ji7, hji7⟩ : ∃ j_ : Int, (mn t340 t343) = j_ := ⟨_, rfl⟩
  replace H : (some (ji7, true)) = some (r1, r2) := by first | (rw [hji7] at H; exact H) | (simp only [hji7] at H ⊢; exact H)
  (try rw [hji7] at A2)
  (try rw [hji7] at A3)
  (try rw [hji7] at A4)
  (try rw [hji7] at A6)
  have hji7_ : (if t343 < t340 then t343 else t340) = ji7 := hji7
  try (have hji7n_ := hji7_; simp only [Int.ofNat_lt] at hji7n_)
  simp only [Option.some.injEq, Prod.mk.injEq] at H
  obtain ⟨rfl, rfl⟩ := H
  go_enter Try.func88, Try.ntmps88
  go_wp2_with (first | ((with_reducible refine gate_callee (f := 107) rfl ?_); refine gL (some 6) Try.func107 #[.int .i64 a0, .int .i64 3027, .int .i64 12107] ?_; (with_reducible refine (impl_powerMod.calls k a0 3027 12107 t340 _ A2.out).mono ?_); rintro e w' ⟨rfl, ⟨nd, rfl⟩⟩; refine ⟨_, rfl, ?_⟩) | ((with_reducible refine gate_callee (f := 68) rfl ?_); refine gL (some 9) Try.func68 #[.int .i64 t340, .int .i64 t340] ?_; (with_reducible refine (impl_FpMul.calls t340 t340 t341 _ A3.out).mono ?_); rintro e w' ⟨rfl, ⟨nd, rfl⟩⟩; refine ⟨_, rfl, ?_⟩) | ((with_reducible refine gate_callee (f := 100) rfl ?_); refine gL (some 11) Try.func100 #[.int .i64 a0] ?_; (with_reducible refine (impl_FpOf.calls a0 t342 _ A4.out).mono ?_); rintro e w' ⟨rfl, ⟨nd, rfl⟩⟩; refine ⟨_, rfl, ?_⟩) | ((with_reducible refine gate_callee (f := 100) rfl ?_); refine gL (some 16) Try.func100 #[.int .i64 (wrap64 (-t340))] ?_; (with_reducible refine (impl_FpOf.calls (wrap64 (-t340)) t343 _ A6.out).mono ?_); rintro e w' ⟨rfl, ⟨nd, rfl⟩⟩; refine ⟨_, rfl, ?_⟩))
  go_ret2
  exact ⟨by first | rfl | (simp [errW_none, errW_some] <;> rfl) | (simp only [← hji7]; first | rfl | (simp [errW_none, errW_some] <;> rfl)) | (simp [*, errW_none, errW_some] <;> rfl), bZ HB⟩
 ·rw [if_neg c5] at H
  have c5b0 : (t341 == t342) = false := beq_eq_false_iff_ne.mpr c5
  have c5b1 : (t341 != t342) = true := bne_iff_ne.mpr c5
  simp only [Option.some.injEq, Prod.mk.injEq] at H
  obtain ⟨rfl, rfl⟩ := H
  go_enter Try.func88, Try.ntmps88
  go_wp2_with (first | ((with_reducible refine gate_callee (f := 107) rfl ?_); refine gL (some 6) Try.func107 #[.int .i64 a0, .int .i64 3027, .int .i64 12107] ?_; (with_reducible refine (impl_powerMod.calls k a0 3027 12107 t340 _ A2.out).mono ?_); rintro e w' ⟨rfl, ⟨nd, rfl⟩⟩; refine ⟨_, rfl, ?_⟩) | ((with_reducible refine gate_callee (f := 68) rfl ?_); refine gL (some 9) Try.func68 #[.int .i64 t340, .int .i64 t340] ?_; (with_reducible refine (impl_FpMul.calls t340 t340 t341 _ A3.out).mono ?_); rintro e w' ⟨rfl, ⟨nd, rfl⟩⟩; refine ⟨_, rfl, ?_⟩) | ((with_reducible refine gate_callee (f := 100) rfl ?_); refine gL (some 11) Try.func100 #[.int .i64 a0] ?_; (with_reducible refine (impl_FpOf.calls a0 t342 _ A4.out).mono ?_); rintro e w' ⟨rfl, ⟨nd, rfl⟩⟩; refine ⟨_, rfl, ?_⟩))
  go_ret2
  exact ⟨rR, bZ HB⟩
/-! ### impl_ReadPoint: function 44 -/
def impl_ReadPoint.f (k : Nat) (a0 : ByteArray) : Option (Int × Int × Bool × Bool) := if (a0.size : Int) = 3 then (if 0 < (a0.size : Int) then (if 1 < (a0.size : Int) then (if (wrap64 ((wrap64 ((wrap64 ((wrap64 (bt a0 0)) * 256)) + (wrap64 (bt a0 1)))) - 1)) < 0 then ((impl_PointText.f 0 0 true).bind fun t346 => (if t346.toList = a0.toList then (some (0, 0, true, true)) else (some (0, 0, false, false)))) else ((impl_curveAt.f (wrap64 ((wrap64 ((wrap64 ((wrap64 (bt a0 0)) * 256)) + (wrap64 (bt a0 1)))) - 1))).bind fun t347 => ((impl_FpRoot.f k t347).bind fun bt348 => (if 2 < (a0.size : Int) then (if (Int.tmod bt348.1 2) = (wrap64 (bt a0 2)) then ((impl_PointText.f (wrap64 ((wrap64 ((wrap64 ((wrap64 (bt a0 0)) * 256)) + (wrap64 (bt a0 1)))) - 1)) bt348.1 false).bind fun t350 => (if t350.toList = a0.toList then (some (wrap64 ((wrap64 ((wrap64 ((wrap64 (bt a0 0)) * 256)) + (wrap64 (bt a0 1)))) - 1), bt348.1, false, true)) else (some (0, 0, false, false)))) else ((impl_PointNeg.f (wrap64 ((wrap64 ((wrap64 ((wrap64 (bt a0 0)) * 256)) + (wrap64 (bt a0 1)))) - 1)) bt348.1 false).bind fun bt351 => ((impl_PointText.f bt351.1 bt351.2.1 bt351.2.2).bind fun t354 => (if t354.toList = a0.toList then (some (bt351.1, bt351.2.1, bt351.2.2, true)) else (some (0, 0, false, false)))))) else (none))))) else (none)) else (none)) else (some (0, 0, false, false))
theorem impl_ReadPoint.mono : ∀ a0 k, LeO (impl_ReadPoint.f k a0) (impl_ReadPoint.f (k + 1) a0) := by
 intro a0 k
 unfold impl_ReadPoint.f
 repeat' first
   | (with_reducible exact impl_FpRoot.mono _ _)
   | (with_reducible exact LeO.refl _)
   | (with_reducible exact LeO.none _)
   | (with_reducible refine LeO.ite ?_ ?_)
   | (with_reducible refine LeO.bind ?_ (fun _ => ?_))
   | exact impl_FpRoot.mono _ _
   | exact LeO.none _
   | refine LeO.ite ?_ ?_
   | refine LeO.bind ?_ (fun _ => ?_)
def impl_ReadPoint.T3 : Bool × List (List Nat × List Nat) := (true, [([], []), ([0], [0]), ([1], [1]), ([2], [2]), ([], []), ([4], [4]), ([5], [5]), ([3, 6], [3, 6]), ([7], [7]), ([8], [8]), ([], []), ([10, 9, 0, 1, 2, 3, 4, 5, 6, 7, 8, 9, 10], [9, 10])])
def impl_ReadPoint.B3 : List Nat := [0, 1, 3, 7, 0, 16, 48, 127, 255, 511, 0, 2047]
theorem impl_ReadPoint.tab3 : rtab .any (opsOf Try.f44 3) = impl_ReadPoint.T3 := by kernel_rfl
theorem impl_ReadPoint.bits3 : waitsOk impl_ReadPoint.T3.2 impl_ReadPoint.B3 = true := by kernel_rfl
set_option maxHeartbeats 8000000 in
set_option maxRecDepth 100000 in
theorem impl_ReadPoint.calls (k : Nat) (a0 : ByteArray) (r1 : Int) (r2 : Int) (r3 : Bool) (r4 : Bool) (w : World) (h : impl_ReadPoint.f k a0 = some (r1, r2, r3, r4)) :
  Calls Try.prog 44 #[.string a0] w fun e w' => e = .returned (.tuple #[.agg #[.int .i64 r1, .int .i64 r2, .bool r3], .bool r4]) ∧ Below w.heap.size w w' := by
 have hu25 := Try.underlying25
 have HB := Aside0.mk (Below.refl w.heap.size w)
 have H : (if (a0.size : Int) = 3 then (if 0 < (a0.size : Int) then (if 1 < (a0.size : Int) then (if (wrap64 ((wrap64 ((wrap64 ((wrap64 (bt a0 0)) * 256)) + (wrap64 (bt a0 1)))) - 1)) < 0 then ((impl_PointText.f 0 0 true).bind fun t346 => (if t346.toList = a0.toList then (some (0, 0, true, true)) else (some (0, 0, false, false)))) else ((impl_curveAt.f (wrap64 ((wrap64 ((wrap64 ((wrap64 (bt a0 0)) * 256)) + (wrap64 (bt a0 1)))) - 1))).bind fun t347 => ((impl_FpRoot.f k t347).bind fun bt348 => (if 2 < (a0.size : Int) then (if (Int.tmod bt348.1 2) = (wrap64 (bt a0 2)) then ((impl_PointText.f (wrap64 ((wrap64 ((wrap64 ((wrap64 (bt a0 0)) * 256)) + (wrap64 (bt a0 1)))) - 1)) bt348.1 false).bind fun t350 => (if t350.toList = a0.toList then (some (wrap64 ((wrap64 ((wrap64 ((wrap64 (bt a0 0)) * 256)) + (wrap64 (bt a0 1)))) - 1), bt348.1, false, true)) else (some (0, 0, false, false)))) else ((impl_PointNeg.f (wrap64 ((wrap64 ((wrap64 ((wrap64 (bt a0 0)) * 256)) + (wrap64 (bt a0 1)))) - 1)) bt348.1 false).bind fun bt351 => ((impl_PointText.f bt351.1 bt351.2.1 bt351.2.2).bind fun t354 => (if t354.toList = a0.toList then (some (bt351.1, bt351.2.1, bt351.2.2, true)) else (some (0, 0, false, false)))))) else (none))))) else (none)) else (none)) else (some (0, 0, false, false))) = some (r1, r2, r3, r4) := h
 clear h
 by_cases c2 : (a0.size : Int) = 3
 ·rw [if_pos c2] at H
  have c2b0 : ((a0.size : Int) == 3) = true := beq_iff_eq.mpr c2
  have c2b1 : ((a0.size : Int) != 3) = false := bne_eq_false_iff_eq.mpr c2
  clear c2
  by_cases c3 : 0 < (a0.size : Int)
  ·rw [if_pos c3] at H
   have c3b0 : decide (0 < (a0.size : Int)) = true := decide_eq_true c3
   have c3b1 : decide (0 < a0.size) = true := decide_eq_true (by omega)
   clear c3
   by_cases c5 : 1 < (a0.size : Int)
   ·rw [if_pos c5] at H
    have c5b0 : decide (1 < (a0.size : Int)) = true := decide_eq_true c5
    have c5b1 : decide (1 < a0.size) = true := decide_eq_true (by omega)
    clear c5
    by_cases c7 : (wrap64 ((wrap64 ((wrap64 ((wrap64 (bt a0 0)) * 256)) + (wrap64 (bt a0 1)))) - 1)) < 0
    ·rw [if_pos c7] at H
     have c7b0 : decide ((wrap64 ((wrap64 ((wrap64 ((wrap64 (bt a0 0)) * 256)) + (wrap64 (bt a0 1)))) - 1)) < 0) = true := decide_eq_true c7
     clear c7
     replace H := Option.bind_eq_some_iff.mp H
     obtain ⟨t346, A80, H⟩ := H
     have A8 := Aside0.mk A80
     clear A80
     by_cases c9 : t346.toList = a0.toList
     ·rw [if_pos c9] at H
      have c9b0 : (t346.toList == a0.toList) = true := beq_iff_eq.mpr c9
      have c9b1 : (t346.toList != a0.toList) = false := bne_eq_false_iff_eq.mpr c9
      clear c9
      simp only [Option.some.injEq, Prod.mk.injEq] at H
      obtain ⟨rfl, rfl, rfl, rfl⟩ := H
      go_enter Try.func44, Try.ntmps44
      try go_wp2_with (first | ((with_reducible refine gate_dst (N := 2) rfl ?_); refine bE 2 #[.int .i64 0, .int .i64 0, .bool false] 25 ?_; intro gb344 hg w10 hbox hb; have BK344 := Aside0.mk (hbox); have GW344 := bG HB hg; have GE344 := bG HB hg; replace HB := bS HB hb; clear hb hbox hg))
      replace BK344 := Aside0.mk (blk_drew BK344.out)
      replace HB := Aside0.mk (below_drew1 HB.out)
      have p4 : 0 ≤ (0 : Int) := (by omega)
      have q4 : 0 < a0.size := (by have : (0 : Int) < (a0.size : Int) := of_decide_eq_true (by first | (with_reducible assumption) | assumption); omega)
      have hx4 : ∀ h : 0 < a0.size, ((a0[0]'h).toNat : Int) = bt a0 0 := bt_at a0 0
      clear p4
      have qi4 : (0 < (a0.size : Int)) = True := eq_true (of_decide_eq_true (by first | (with_reducible assumption) | assumption))
      replace q4 := eq_true q4
      have p6 : 0 ≤ (1 : Int) := (by omega)
      have q6 : 1 < a0.size := (by have : (1 : Int) < (a0.size : Int) := of_decide_eq_true (by first | (with_reducible assumption) | assumption); omega)
      have hx6 : ∀ h : 1 < a0.size, ((a0[1]'h).toNat : Int) = bt a0 1 := bt_at a0 1
      clear p6
      have qi6 : (1 < (a0.size : Int)) = True := eq_true (of_decide_eq_true (by first | (with_reducible assumption) | assumption))
      replace q6 := eq_true q6
      refine start_ (n := 12) (S := fun w' => True) (ds := []) #[false, false, false, false, false, false, false, false, false, false, false, false] (by kernel_rfl) rfl rfl trivial (fun hHeld => ?_); refine with_tabW impl_ReadPoint.tab3 impl_ReadPoint.bits3 (fun HT_ HW_ => ?_)
      generalize w10.drew = w11 at BK344 HB hHeld ⊢
      refine pI 0 (some 9) HT_.out ?_
      refine pI 4 (some 13) HT_.out ?_
      refine take_ (i := 1) (N := some 10) (v := ?_) (a' := ?_) #[true, true, false, false, true, false, false, false, false, false, false, false] rfl rfl (take_ofW HT_.out HW_.out (by kernel_rfl)) (fun _ _ _ h => h) (Or.inl ⟨by rfl, ?_⟩) hHeld ?_ ?_
      rotate_left
      ·intro w' _
       go_simp
       with_reducible rfl
      rotate_left
      ·simp only [Act.put, List.setIfInBounds_toArray, List.set_cons_zero, List.set_cons_succ, i64_w, i32_w]
       rfl
      refine pI 2 (some 11) HT_.out ?_
      refine pI 3 (some 12) HT_.out ?_
      refine take_ (i := 5) (N := some 14) (v := ?_) (a' := ?_) #[true, true, true, true, true, true, false, false, false, false, false, false] rfl rfl (take_ofW HT_.out HW_.out (by kernel_rfl)) (fun _ _ _ h => h) (Or.inl ⟨by rfl, ?_⟩) hHeld ?_ ?_
      rotate_left
      ·intro w' _
       go_simp
       with_reducible rfl
      rotate_left
      ·simp only [Act.put, List.setIfInBounds_toArray, List.set_cons_zero, List.set_cons_succ, i64_w, i32_w]
       rfl
      refine pI 6 (some 15) HT_.out ?_
      refine pI 7 (some 16) HT_.out ?_
      refine pI 8 (some 17) HT_.out ?_
      refine pI 9 (some 18) HT_.out ?_
      refine oI 10 (some 4) HT_.out (fun K hK => ?_)
      refine box_step ?hg (N := 4) ?hd (cs := #[.int .i64 0, .int .i64 0, .bool false]) (t := 25) ?hr ?_; (case hd => rfl); (case hg => rfl); (case hr => first | (go_simp; done) | (go_simp; rfl))
      intro gb345 hg w12 hbox hb
      have BK345 := Aside0.mk (hbox)
      have GW345 := bG HB hg
      have GE345 := bG HB hg
      replace HB := bS HB hb
      have NB344_345 := bL BK344 hg
      have NB345_344 := bR BK344 hg
      replace BK344 := bB BK344 hb
      clear hb hbox hg
      refine hK.out _ _ trivial (fun hHeld => ?_)
      clear hK K
      refine nO (some 4) ?_
      refine oI 11 (none) HT_.out (fun K hK => ?_)
      have hs13 : w12.cell? ⟨gb345, 0, none⟩ = some (.int .i64 0) := bc BK345 0
      have hfs13 := blk_frozen BK345.out 0
      obtain ⟨hns13_0, hms13_0⟩ := nB NB344_345
      have hs14 : w12.cell? ⟨gb345, 1, none⟩ = some (.int .i64 0) := bc BK345 1
      have hfs14 := blk_frozen BK345.out 1
      obtain ⟨hns14_0, hms14_0⟩ := nB NB344_345
      have hs15 : w12.cell? ⟨gb345, 2, none⟩ = some (.bool false) := bc BK345 2
      have hfs15 := blk_frozen BK345.out 2
      obtain ⟨hns15_0, hms15_0⟩ := nB NB344_345
      refine skip_ (w1 := ?_) (by rfl) rfl ?_ ?_
      rotate_left
      ·go_simp
       rfl
      refine hK.out _ _ trivial (fun hHeld => ?_)
      clear hK K
      refine done_ (done_of HT_.out (by kernel_rfl)) ?_
      obtain ⟨hnb16, hnc16⟩ := nB NB345_344
      obtain ⟨hcz17_0, hcz17_1, hcz17_2, hfz17_0, hfz17_1, hfz17_2⟩ := bK3 (w := w12) BK345
      have q1_ : Aside0 ((((w12.setCell ⟨gb345, 0, none⟩ (.int .i64 (wrap64 ((wrap64 ((wrap64 ((wrap64 (bt a0 0)) * 256)) + (wrap64 (bt a0 1)))) - 1)))).setCell ⟨gb345, 1, none⟩ (.int .i64 0)).setCell ⟨gb345, 2, none⟩ (.bool false)).heap[gb345]? = some (.cells #[.int .i64 (wrap64 ((wrap64 ((wrap64 ((wrap64 (bt a0 0)) * 256)) + (wrap64 (bt a0 1)))) - 1)), .int .i64 0, .bool false] 25 (0, 0))) := ⟨by refine blk_put (cs := #[.int .i64 (wrap64 ((wrap64 ((wrap64 ((wrap64 (bt a0 0)) * 256)) + (wrap64 (bt a0 1)))) - 1)), .int .i64 0, .bool false]) ?_ 2 _ rfl; refine blk_put (cs := #[.int .i64 (wrap64 ((wrap64 ((wrap64 ((wrap64 (bt a0 0)) * 256)) + (wrap64 (bt a0 1)))) - 1)), .int .i64 0, .bool false]) ?_ 1 _ rfl; refine blk_put (cs := #[.int .i64 0, .int .i64 0, .bool false]) ?_ 0 _ rfl; exact BK345.out⟩
      have q2_ : Aside0 ((((w12.setCell ⟨gb345, 0, none⟩ (.int .i64 (wrap64 ((wrap64 ((wrap64 ((wrap64 (bt a0 0)) * 256)) + (wrap64 (bt a0 1)))) - 1)))).setCell ⟨gb345, 1, none⟩ (.int .i64 0)).setCell ⟨gb345, 2, none⟩ (.bool false)).heap[gb344]? = some (.cells #[.int .i64 0, .int .i64 0, .bool false] 25 (0, 0))) := ⟨by refine blk_far ?_ NB344_345.out _; refine blk_far ?_ NB344_345.out _; refine blk_far ?_ NB344_345.out _; exact BK344.out⟩
      have q3_ : Aside0 (Below w.heap.size w (((w12.setCell ⟨gb345, 0, none⟩ (.int .i64 (wrap64 ((wrap64 ((wrap64 ((wrap64 (bt a0 0)) * 256)) + (wrap64 (bt a0 1)))) - 1)))).setCell ⟨gb345, 1, none⟩ (.int .i64 0)).setCell ⟨gb345, 2, none⟩ (.bool false))) := ⟨bZ HB⟩
      generalize (((w12.setCell ⟨gb345, 0, none⟩ (.int .i64 (wrap64 ((wrap64 ((wrap64 ((wrap64 (bt a0 0)) * 256)) + (wrap64 (bt a0 1)))) - 1)))).setCell ⟨gb345, 1, none⟩ (.int .i64 0)).setCell ⟨gb345, 2, none⟩ (.bool false)) = wq_ at q1_ q2_ q3_ ⊢
      clear BK345 BK344 HB
      have BK345 := q1_
      have BK344 := q2_
      have HB := q3_
      clear q1_ q2_ q3_
      have hq345_0 : wq_.cell? ⟨gb345, 0, none⟩ = some (.int .i64 (wrap64 ((wrap64 ((wrap64 ((wrap64 (bt a0 0)) * 256)) + (wrap64 (bt a0 1)))) - 1))) := bc BK345 0
      have hr345_0 := blk_frozen BK345.out 0
      have hq345_1 : wq_.cell? ⟨gb345, 1, none⟩ = some (.int .i64 0) := bc BK345 1
      have hr345_1 := blk_frozen BK345.out 1
      have hq345_2 : wq_.cell? ⟨gb345, 2, none⟩ = some (.bool false) := bc BK345 2
      have hr345_2 := blk_frozen BK345.out 2
      have hq344_0 : wq_.cell? ⟨gb344, 0, none⟩ = some (.int .i64 0) := bc BK344 0
      have hr344_0 := blk_frozen BK344.out 0
      have hq344_1 : wq_.cell? ⟨gb344, 1, none⟩ = some (.int .i64 0) := bc BK344 1
      have hr344_1 := blk_frozen BK344.out 1
      have hq344_2 : wq_.cell? ⟨gb344, 2, none⟩ = some (.bool false) := bc BK344 2
      have hr344_2 := blk_frozen BK344.out 2
      try go_wp2_with (first | ((with_reducible refine gate_callee (f := 43) rfl ?_); refine gL (some 41) Try.func43 #[.agg #[.int .i64 0, .int .i64 0, .bool true]] ?_; (with_reducible refine (impl_PointText.calls 0 0 true t346 _ A8.out).mono ?_); rintro e w18 ⟨rfl, hb⟩; refine ⟨_, rfl, ?_⟩; replace BK344 := bB BK344 hb; replace BK345 := bV 25 #[.int .i64 0, .int .i64 0, .bool true] BK345 hb; replace HB := bS HB hb; (try clear hb); obtain ⟨hcz19_0, hcz19_1, hcz19_2, hfz19_0, hfz19_1, hfz19_2⟩ := bK3 (w := w18) BK345; obtain ⟨hcz20_0, hcz20_1, hcz20_2, hfz20_0, hfz20_1, hfz20_2⟩ := bK3 (w := w18) BK344))
      refine bodyPost_ret (results_ct rfl _ _ gb344 25 #[.int .i64 0, .int .i64 0, .bool true] (0, 0) _ rfl (bU BK344) Try.underlying25 rfl (by kernel_rfl)) rfl ?_
      exact ⟨rR, bZ HB⟩
     ·rw [if_neg c9] at H
      have c9b0 : (t346.toList == a0.toList) = false := beq_eq_false_iff_ne.mpr c9
      have c9b1 : (t346.toList != a0.toList) = true := bne_iff_ne.mpr c9
      simp only [Option.some.injEq, Prod.mk.injEq] at H
      obtain ⟨rfl, rfl, rfl, rfl⟩ := H
      go_enter Try.func44, Try.ntmps44
      try go_wp2_with (first | ((with_reducible refine gate_dst (N := 2) rfl ?_); refine bE 2 #[.int .i64 0, .int .i64 0, .bool false] 25 ?_; intro gb344 hg w21 hbox hb; have BK344 := Aside0.mk (hbox); have GW344 := bG HB hg; have GE344 := bG HB hg; replace HB := bS HB hb; clear hb hbox hg))
      replace BK344 := Aside0.mk (blk_drew BK344.out)
      replace HB := Aside0.mk (below_drew1 HB.out)
      have p4 : 0 ≤ (0 : Int) := (by omega)
      have q4 : 0 < a0.size := (by have : (0 : Int) < (a0.size : Int) := of_decide_eq_true (by first | (with_reducible assumption) | assumption); omega)
      have hx4 : ∀ h : 0 < a0.size, ((a0[0]'h).toNat : Int) = bt a0 0 := bt_at a0 0
      clear p4
      have qi4 : (0 < (a0.size : Int)) = True := eq_true (of_decide_eq_true (by first | (with_reducible assumption) | assumption))
      replace q4 := eq_true q4
      have p6 : 0 ≤ (1 : Int) := (by omega)
      have q6 : 1 < a0.size := (by have : (1 : Int) < (a0.size : Int) := of_decide_eq_true (by first | (with_reducible assumption) | assumption); omega)
      have hx6 : ∀ h : 1 < a0.size, ((a0[1]'h).toNat : Int) = bt a0 1 := bt_at a0 1
      clear p6
      have qi6 : (1 < (a0.size : Int)) = True := eq_true (of_decide_eq_true (by first | (with_reducible assumption) | assumption))
      replace q6 := eq_true q6
      refine start_ (n := 12) (S := fun w' => True) (ds := []) #[false, false, false, false, false, false, false, false, false, false, false, false] (by kernel_rfl) rfl rfl trivial (fun hHeld => ?_); refine with_tabW impl_ReadPoint.tab3 impl_ReadPoint.bits3 (fun HT_ HW_ => ?_)
      generalize w21.drew = w22 at BK344 HB hHeld ⊢
      refine pI 0 (some 9) HT_.out ?_
      refine pI 4 (some 13) HT_.out ?_
      refine take_ (i := 1) (N := some 10) (v := ?_) (a' := ?_) #[true, true, false, false, true, false, false, false, false, false, false, false] rfl rfl (take_ofW HT_.out HW_.out (by kernel_rfl)) (fun _ _ _ h => h) (Or.inl ⟨by rfl, ?_⟩) hHeld ?_ ?_
      rotate_left
      ·intro w' _
       go_simp
       with_reducible rfl
      rotate_left
      ·simp only [Act.put, List.setIfInBounds_toArray, List.set_cons_zero, List.set_cons_succ, i64_w, i32_w]
       rfl
      refine pI 2 (some 11) HT_.out ?_
      refine pI 3 (some 12) HT_.out ?_
      refine take_ (i := 5) (N := some 14) (v := ?_) (a' := ?_) #[true, true, true, true, true, true, false, false, false, false, false, false] rfl rfl (take_ofW HT_.out HW_.out (by kernel_rfl)) (fun _ _ _ h => h) (Or.inl ⟨by rfl, ?_⟩) hHeld ?_ ?_
      rotate_left
      ·intro w' _
       go_simp
       with_reducible rfl
      rotate_left
      ·simp only [Act.put, List.setIfInBounds_toArray, List.set_cons_zero, List.set_cons_succ, i64_w, i32_w]
       rfl
      refine pI 6 (some 15) HT_.out ?_
      refine pI 7 (some 16) HT_.out ?_
      refine pI 8 (some 17) HT_.out ?_
      refine pI 9 (some 18) HT_.out ?_
      refine oI 10 (some 4) HT_.out (fun K hK => ?_)
      refine box_step ?hg (N := 4) ?hd (cs := #[.int .i64 0, .int .i64 0, .bool false]) (t := 25) ?hr ?_; (case hd => rfl); (case hg => rfl); (case hr => first | (go_simp; done) | (go_simp; rfl))
      intro gb345 hg w23 hbox hb
      have BK345 := Aside0.mk (hbox)
      have GW345 := bG HB hg
      have GE345 := bG HB hg
      replace HB := bS HB hb
      have NB344_345 := bL BK344 hg
      have NB345_344 := bR BK344 hg
      replace BK344 := bB BK344 hb
      clear hb hbox hg
      refine hK.out _ _ trivial (fun hHeld => ?_)
      clear hK K
      refine nO (some 4) ?_
      refine oI 11 (none) HT_.out (fun K hK => ?_)
      have hs24 : w23.cell? ⟨gb345, 0, none⟩ = some (.int .i64 0) := bc BK345 0
      have hfs24 := blk_frozen BK345.out 0
      obtain ⟨hns24_0, hms24_0⟩ := nB NB344_345
      have hs25 : w23.cell? ⟨gb345, 1, none⟩ = some (.int .i64 0) := bc BK345 1
      have hfs25 := blk_frozen BK345.out 1
      obtain ⟨hns25_0, hms25_0⟩ := nB NB344_345
      have hs26 : w23.cell? ⟨gb345, 2, none⟩ = some (.bool false) := bc BK345 2
      have hfs26 := blk_frozen BK345.out 2
      obtain ⟨hns26_0, hms26_0⟩ := nB NB344_345
      refine skip_ (w1 := ?_) (by rfl) rfl ?_ ?_
      rotate_left
      ·go_simp
       rfl
      refine hK.out _ _ trivial (fun hHeld => ?_)
      clear hK K
      refine done_ (done_of HT_.out (by kernel_rfl)) ?_
      obtain ⟨hnb27, hnc27⟩ := nB NB345_344
      obtain ⟨hcz28_0, hcz28_1, hcz28_2, hfz28_0, hfz28_1, hfz28_2⟩ := bK3 (w := w23) BK345
      have q1_ : Aside0 ((((w23.setCell ⟨gb345, 0, none⟩ (.int .i64 (wrap64 ((wrap64 ((wrap64 ((wrap64 (bt a0 0)) * 256)) + (wrap64 (bt a0 1)))) - 1)))).setCell ⟨gb345, 1, none⟩ (.int .i64 0)).setCell ⟨gb345, 2, none⟩ (.bool false)).heap[gb345]? = some (.cells #[.int .i64 (wrap64 ((wrap64 ((wrap64 ((wrap64 (bt a0 0)) * 256)) + (wrap64 (bt a0 1)))) - 1)), .int .i64 0, .bool false] 25 (0, 0))) := ⟨by refine blk_put (cs := #[.int .i64 (wrap64 ((wrap64 ((wrap64 ((wrap64 (bt a0 0)) * 256)) + (wrap64 (bt a0 1)))) - 1)), .int .i64 0, .bool false]) ?_ 2 _ rfl; refine blk_put (cs := #[.int .i64 (wrap64 ((wrap64 ((wrap64 ((wrap64 (bt a0 0)) * 256)) + (wrap64 (bt a0 1)))) - 1)), .int .i64 0, .bool false]) ?_ 1 _ rfl; refine blk_put (cs := #[.int .i64 0, .int .i64 0, .bool false]) ?_ 0 _ rfl; exact BK345.out⟩
      have q2_ : Aside0 ((((w23.setCell ⟨gb345, 0, none⟩ (.int .i64 (wrap64 ((wrap64 ((wrap64 ((wrap64 (bt a0 0)) * 256)) + (wrap64 (bt a0 1)))) - 1)))).setCell ⟨gb345, 1, none⟩ (.int .i64 0)).setCell ⟨gb345, 2, none⟩ (.bool false)).heap[gb344]? = some (.cells #[.int .i64 0, .int .i64 0, .bool false] 25 (0, 0))) := ⟨by refine blk_far ?_ NB344_345.out _; refine blk_far ?_ NB344_345.out _; refine blk_far ?_ NB344_345.out _; exact BK344.out⟩
      have q3_ : Aside0 (Below w.heap.size w (((w23.setCell ⟨gb345, 0, none⟩ (.int .i64 (wrap64 ((wrap64 ((wrap64 ((wrap64 (bt a0 0)) * 256)) + (wrap64 (bt a0 1)))) - 1)))).setCell ⟨gb345, 1, none⟩ (.int .i64 0)).setCell ⟨gb345, 2, none⟩ (.bool false))) := ⟨bZ HB⟩
      generalize (((w23.setCell ⟨gb345, 0, none⟩ (.int .i64 (wrap64 ((wrap64 ((wrap64 ((wrap64 (bt a0 0)) * 256)) + (wrap64 (bt a0 1)))) - 1)))).setCell ⟨gb345, 1, none⟩ (.int .i64 0)).setCell ⟨gb345, 2, none⟩ (.bool false)) = wq_ at q1_ q2_ q3_ ⊢
      clear BK345 BK344 HB
      have BK345 := q1_
      have BK344 := q2_
      have HB := q3_
      clear q1_ q2_ q3_
      have hq345_0 : wq_.cell? ⟨gb345, 0, none⟩ = some (.int .i64 (wrap64 ((wrap64 ((wrap64 ((wrap64 (bt a0 0)) * 256)) + (wrap64 (bt a0 1)))) - 1))) := bc BK345 0
      have hr345_0 := blk_frozen BK345.out 0
      have hq345_1 : wq_.cell? ⟨gb345, 1, none⟩ = some (.int .i64 0) := bc BK345 1
      have hr345_1 := blk_frozen BK345.out 1
      have hq345_2 : wq_.cell? ⟨gb345, 2, none⟩ = some (.bool false) := bc BK345 2
      have hr345_2 := blk_frozen BK345.out 2
      have hq344_0 : wq_.cell? ⟨gb344, 0, none⟩ = some (.int .i64 0) := bc BK344 0
      have hr344_0 := blk_frozen BK344.out 0
      have hq344_1 : wq_.cell? ⟨gb344, 1, none⟩ = some (.int .i64 0) := bc BK344 1
      have hr344_1 := blk_frozen BK344.out 1
      have hq344_2 : wq_.cell? ⟨gb344, 2, none⟩ = some (.bool false) := bc BK344 2
      have hr344_2 := blk_frozen BK344.out 2
      try go_wp2_with (first | ((with_reducible refine gate_callee (f := 43) rfl ?_); refine gL (some 41) Try.func43 #[.agg #[.int .i64 0, .int .i64 0, .bool true]] ?_; (with_reducible refine (impl_PointText.calls 0 0 true t346 _ A8.out).mono ?_); rintro e w29 ⟨rfl, hb⟩; refine ⟨_, rfl, ?_⟩; replace BK344 := bB BK344 hb; replace BK345 := bV 25 #[.int .i64 0, .int .i64 0, .bool true] BK345 hb; replace HB := bS HB hb; (try clear hb); obtain ⟨hcz30_0, hcz30_1, hcz30_2, hfz30_0, hfz30_1, hfz30_2⟩ := bK3 (w := w29) BK344))
      refine bodyPost_ret (results_ct rfl _ _ gb344 25 #[.int .i64 0, .int .i64 0, .bool false] (0, 0) _ rfl (bU BK344) Try.underlying25 rfl (by kernel_rfl)) rfl ?_
      exact ⟨rR, bZ HB⟩
    ·rw [if_neg c7] at H
     have c7b0 : decide ((wrap64 ((wrap64 ((wrap64 ((wrap64 (bt a0 0)) * 256)) + (wrap64 (bt a0 1)))) - 1)) < 0) = false := decide_eq_false c7
     clear c7
     replace H := Option.bind_eq_some_iff.mp H
     obtain ⟨t347, A310, H⟩ := H
     have A31 := Aside0.mk A310
     clear A310
     replace H := Option.bind_eq_some_iff.mp H
     obtain ⟨⟨t348, t349⟩, A320, H⟩ := H
     have A32 := Aside0.mk A320
     clear A320
     by_cases c33 : 2 < (a0.size : Int)
     ·rw [if_pos c33] at H
      have c33b0 : decide (2 < (a0.size : Int)) = true := decide_eq_true c33
      have c33b1 : decide (2 < a0.size) = true := decide_eq_true (by omega)
      clear c33
      by_cases c35 : (Int.tmod t348 2) = (wrap64 (bt a0 2))
      ·rw [if_pos c35] at H
       have c35b0 : ((Int.tmod t348 2) == (wrap64 (bt a0 2))) = true := beq_iff_eq.mpr c35
       have c35b1 : ((Int.tmod t348 2) != (wrap64 (bt a0 2))) = false := bne_eq_false_iff_eq.mpr c35
       clear c35
       replace H := Option.bind_eq_some_iff.mp H
       obtain ⟨t350, A360, H⟩ := H
       have A36 := Aside0.mk A360
       clear A360
       by_cases c37 : t350.toList = a0.toList
       ·rw [if_pos c37] at H
        have c37b0 : (t350.toList == a0.toList) = true := beq_iff_eq.mpr c37
        have c37b1 : (t350.toList != a0.toList) = false := bne_eq_false_iff_eq.mpr c37
        clear c37
        simp only [Option.some.injEq, Prod.mk.injEq] at H
        obtain ⟨rfl, rfl, rfl, rfl⟩ := H
        go_enter Try.func44, Try.ntmps44
        try go_wp2_with (first | ((with_reducible refine gate_dst (N := 2) rfl ?_); refine bE 2 #[.int .i64 0, .int .i64 0, .bool false] 25 ?_; intro gb344 hg w38 hbox hb; have BK344 := Aside0.mk (hbox); have GW344 := bG HB hg; have GE344 := bG HB hg; replace HB := bS HB hb; clear hb hbox hg))
        replace BK344 := Aside0.mk (blk_drew BK344.out)
        replace HB := Aside0.mk (below_drew1 HB.out)
        have p4 : 0 ≤ (0 : Int) := (by omega)
        have q4 : 0 < a0.size := (by have : (0 : Int) < (a0.size : Int) := of_decide_eq_true (by first | (with_reducible assumption) | assumption); omega)
        have hx4 : ∀ h : 0 < a0.size, ((a0[0]'h).toNat : Int) = bt a0 0 := bt_at a0 0
        clear p4
        have qi4 : (0 < (a0.size : Int)) = True := eq_true (of_decide_eq_true (by first | (with_reducible assumption) | assumption))
        replace q4 := eq_true q4
        have p6 : 0 ≤ (1 : Int) := (by omega)
        have q6 : 1 < a0.size := (by have : (1 : Int) < (a0.size : Int) := of_decide_eq_true (by first | (with_reducible assumption) | assumption); omega)
        have hx6 : ∀ h : 1 < a0.size, ((a0[1]'h).toNat : Int) = bt a0 1 := bt_at a0 1
        clear p6
        have qi6 : (1 < (a0.size : Int)) = True := eq_true (of_decide_eq_true (by first | (with_reducible assumption) | assumption))
        replace q6 := eq_true q6
        refine start_ (n := 12) (S := fun w' => True) (ds := []) #[false, false, false, false, false, false, false, false, false, false, false, false] (by kernel_rfl) rfl rfl trivial (fun hHeld => ?_); refine with_tabW impl_ReadPoint.tab3 impl_ReadPoint.bits3 (fun HT_ HW_ => ?_)
        generalize w38.drew = w39 at BK344 HB hHeld ⊢
        refine pI 0 (some 9) HT_.out ?_
        refine pI 4 (some 13) HT_.out ?_
        refine take_ (i := 1) (N := some 10) (v := ?_) (a' := ?_) #[true, true, false, false, true, false, false, false, false, false, false, false] rfl rfl (take_ofW HT_.out HW_.out (by kernel_rfl)) (fun _ _ _ h => h) (Or.inl ⟨by rfl, ?_⟩) hHeld ?_ ?_
        rotate_left
        ·intro w' _
         go_simp
         with_reducible rfl
        rotate_left
        ·simp only [Act.put, List.setIfInBounds_toArray, List.set_cons_zero, List.set_cons_succ, i64_w, i32_w]
         rfl
        refine pI 2 (some 11) HT_.out ?_
        refine pI 3 (some 12) HT_.out ?_
        refine take_ (i := 5) (N := some 14) (v := ?_) (a' := ?_) #[true, true, true, true, true, true, false, false, false, false, false, false] rfl rfl (take_ofW HT_.out HW_.out (by kernel_rfl)) (fun _ _ _ h => h) (Or.inl ⟨by rfl, ?_⟩) hHeld ?_ ?_
        rotate_left
        ·intro w' _
         go_simp
         with_reducible rfl
        rotate_left
        ·simp only [Act.put, List.setIfInBounds_toArray, List.set_cons_zero, List.set_cons_succ, i64_w, i32_w]
         rfl
        refine pI 6 (some 15) HT_.out ?_
        refine pI 7 (some 16) HT_.out ?_
        refine pI 8 (some 17) HT_.out ?_
        refine pI 9 (some 18) HT_.out ?_
        refine oI 10 (some 4) HT_.out (fun K hK => ?_)
        refine box_step ?hg (N := 4) ?hd (cs := #[.int .i64 0, .int .i64 0, .bool false]) (t := 25) ?hr ?_; (case hd => rfl); (case hg => rfl); (case hr => first | (go_simp; done) | (go_simp; rfl))
        intro gb345 hg w40 hbox hb
        have BK345 := Aside0.mk (hbox)
        have GW345 := bG HB hg
        have GE345 := bG HB hg
        replace HB := bS HB hb
        have NB344_345 := bL BK344 hg
        have NB345_344 := bR BK344 hg
        replace BK344 := bB BK344 hb
        clear hb hbox hg
        refine hK.out _ _ trivial (fun hHeld => ?_)
        clear hK K
        refine nO (some 4) ?_
        refine oI 11 (none) HT_.out (fun K hK => ?_)
        have hs41 : w40.cell? ⟨gb345, 0, none⟩ = some (.int .i64 0) := bc BK345 0
        have hfs41 := blk_frozen BK345.out 0
        obtain ⟨hns41_0, hms41_0⟩ := nB NB344_345
        have hs42 : w40.cell? ⟨gb345, 1, none⟩ = some (.int .i64 0) := bc BK345 1
        have hfs42 := blk_frozen BK345.out 1
        obtain ⟨hns42_0, hms42_0⟩ := nB NB344_345
        have hs43 : w40.cell? ⟨gb345, 2, none⟩ = some (.bool false) := bc BK345 2
        have hfs43 := blk_frozen BK345.out 2
        obtain ⟨hns43_0, hms43_0⟩ := nB NB344_345
        refine skip_ (w1 := ?_) (by rfl) rfl ?_ ?_
        rotate_left
        ·go_simp
         rfl
        refine hK.out _ _ trivial (fun hHeld => ?_)
        clear hK K
        refine done_ (done_of HT_.out (by kernel_rfl)) ?_
        obtain ⟨hnb44, hnc44⟩ := nB NB345_344
        obtain ⟨hcz45_0, hcz45_1, hcz45_2, hfz45_0, hfz45_1, hfz45_2⟩ := bK3 (w := w40) BK345
        have q1_ : Aside0 ((((w40.setCell ⟨gb345, 0, none⟩ (.int .i64 (wrap64 ((wrap64 ((wrap64 ((wrap64 (bt a0 0)) * 256)) + (wrap64 (bt a0 1)))) - 1)))).setCell ⟨gb345, 1, none⟩ (.int .i64 0)).setCell ⟨gb345, 2, none⟩ (.bool false)).heap[gb345]? = some (.cells #[.int .i64 (wrap64 ((wrap64 ((wrap64 ((wrap64 (bt a0 0)) * 256)) + (wrap64 (bt a0 1)))) - 1)), .int .i64 0, .bool false] 25 (0, 0))) := ⟨by refine blk_put (cs := #[.int .i64 (wrap64 ((wrap64 ((wrap64 ((wrap64 (bt a0 0)) * 256)) + (wrap64 (bt a0 1)))) - 1)), .int .i64 0, .bool false]) ?_ 2 _ rfl; refine blk_put (cs := #[.int .i64 (wrap64 ((wrap64 ((wrap64 ((wrap64 (bt a0 0)) * 256)) + (wrap64 (bt a0 1)))) - 1)), .int .i64 0, .bool false]) ?_ 1 _ rfl; refine blk_put (cs := #[.int .i64 0, .int .i64 0, .bool false]) ?_ 0 _ rfl; exact BK345.out⟩
        have q2_ : Aside0 ((((w40.setCell ⟨gb345, 0, none⟩ (.int .i64 (wrap64 ((wrap64 ((wrap64 ((wrap64 (bt a0 0)) * 256)) + (wrap64 (bt a0 1)))) - 1)))).setCell ⟨gb345, 1, none⟩ (.int .i64 0)).setCell ⟨gb345, 2, none⟩ (.bool false)).heap[gb344]? = some (.cells #[.int .i64 0, .int .i64 0, .bool false] 25 (0, 0))) := ⟨by refine blk_far ?_ NB344_345.out _; refine blk_far ?_ NB344_345.out _; refine blk_far ?_ NB344_345.out _; exact BK344.out⟩
        have q3_ : Aside0 (Below w.heap.size w (((w40.setCell ⟨gb345, 0, none⟩ (.int .i64 (wrap64 ((wrap64 ((wrap64 ((wrap64 (bt a0 0)) * 256)) + (wrap64 (bt a0 1)))) - 1)))).setCell ⟨gb345, 1, none⟩ (.int .i64 0)).setCell ⟨gb345, 2, none⟩ (.bool false))) := ⟨bZ HB⟩
        generalize (((w40.setCell ⟨gb345, 0, none⟩ (.int .i64 (wrap64 ((wrap64 ((wrap64 ((wrap64 (bt a0 0)) * 256)) + (wrap64 (bt a0 1)))) - 1)))).setCell ⟨gb345, 1, none⟩ (.int .i64 0)).setCell ⟨gb345, 2, none⟩ (.bool false)) = wq_ at q1_ q2_ q3_ ⊢
        clear BK345 BK344 HB
        have BK345 := q1_
        have BK344 := q2_
        have HB := q3_
        clear q1_ q2_ q3_
        have hq345_0 : wq_.cell? ⟨gb345, 0, none⟩ = some (.int .i64 (wrap64 ((wrap64 ((wrap64 ((wrap64 (bt a0 0)) * 256)) + (wrap64 (bt a0 1)))) - 1))) := bc BK345 0
        have hr345_0 := blk_frozen BK345.out 0
        have hq345_1 : wq_.cell? ⟨gb345, 1, none⟩ = some (.int .i64 0) := bc BK345 1
        have hr345_1 := blk_frozen BK345.out 1
        have hq345_2 : wq_.cell? ⟨gb345, 2, none⟩ = some (.bool false) := bc BK345 2
        have hr345_2 := blk_frozen BK345.out 2
        have hq344_0 : wq_.cell? ⟨gb344, 0, none⟩ = some (.int .i64 0) := bc BK344 0
        have hr344_0 := blk_frozen BK344.out 0
        have hq344_1 : wq_.cell? ⟨gb344, 1, none⟩ = some (.int .i64 0) := bc BK344 1
        have hr344_1 := blk_frozen BK344.out 1
        have hq344_2 : wq_.cell? ⟨gb344, 2, none⟩ = some (.bool false) := bc BK344 2
        have hr344_2 := blk_frozen BK344.out 2
        try go_wp2_with (first | ((with_reducible refine gate_callee (f := 83) rfl ?_); refine gL (some 26) Try.func83 #[.int .i64 (wrap64 ((wrap64 ((wrap64 ((wrap64 (bt a0 0)) * 256)) + (wrap64 (bt a0 1)))) - 1))] ?_; (with_reducible refine (impl_curveAt.calls (wrap64 ((wrap64 ((wrap64 ((wrap64 (bt a0 0)) * 256)) + (wrap64 (bt a0 1)))) - 1)) t347 _ A31.out).mono ?_); rintro e w' ⟨rfl, ⟨nd, rfl⟩⟩; refine ⟨_, rfl, ?_⟩) | ((with_reducible refine gate_callee (f := 88) rfl ?_); refine gL (some 27) Try.func88 #[.int .i64 t347] ?_; (with_reducible refine (impl_FpRoot.calls k t347 t348 t349 _ A32.out).mono ?_); rintro e w46 ⟨rfl, hb⟩; refine ⟨_, rfl, ?_⟩; replace BK344 := bB BK344 hb; replace BK345 := bB BK345 hb; replace HB := bS HB hb; (try clear hb); obtain ⟨hcz47_0, hcz47_1, hcz47_2, hfz47_0, hfz47_1, hfz47_2⟩ := bK3 (w := w46) BK345))
        obtain ⟨w48, hW_⟩ : ∃ W_ : World, W_ = (w46.setCell ⟨gb345, 1, none⟩ (.int .i64 t348)) := ⟨_, rfl⟩
        replace BK344 := bW hW_ BK344
        replace BK345 := bX hW_ 25 #[.int .i64 (wrap64 ((wrap64 ((wrap64 ((wrap64 (bt a0 0)) * 256)) + (wrap64 (bt a0 1)))) - 1)), .int .i64 t348, .bool false] BK345
        replace HB := zW hW_ HB
        rw [← hW_]
        clear hW_
        replace BK344 := Aside0.mk (blk_drew BK344.out)
        replace BK345 := Aside0.mk (blk_drew BK345.out)
        replace HB := Aside0.mk (below_drew1 HB.out)
        have p34 : 0 ≤ (2 : Int) := (by omega)
        have q34 : 2 < a0.size := (by have : (2 : Int) < (a0.size : Int) := of_decide_eq_true (by first | (with_reducible assumption) | assumption); omega)
        have hx34 : ∀ h : 2 < a0.size, ((a0[2]'h).toNat : Int) = bt a0 2 := bt_at a0 2
        clear p34
        have qi34 : (2 < (a0.size : Int)) = True := eq_true (of_decide_eq_true (by first | (with_reducible assumption) | assumption))
        replace q34 := eq_true q34
        refine start_ (n := 7) (S := fun w' => w'.cell? ⟨gb345, 0, none⟩ = some (.int .i64 (wrap64 ((wrap64 ((wrap64 ((wrap64 (bt a0 0)) * 256)) + (wrap64 (bt a0 1)))) - 1))) ∧ w'.cell? ⟨gb345, 1, none⟩ = some (.int .i64 t348) ∧ w'.cell? ⟨gb345, 2, none⟩ = some (.bool false)) (ds := []) #[false, false, false, false, false, false, false] (by kernel_rfl) rfl rfl (bT3 BK345) (fun hHeld => ?_)
        generalize w48.drew = w49 at BK344 BK345 HB hHeld ⊢
        refine pure_ (i := 0) (N := some 31) (v := ?_) (a' := ?_) #[true, false, false, false, false, false, false] rfl rfl (by kernel_rfl) (fun _ _ _ h => h) (Or.inl ⟨by rfl, ?_⟩) ?_ ?_
        rotate_left
        ·intro w'
         go_simp
         with_reducible rfl
        rotate_left
        ·simp only [Act.put, List.setIfInBounds_toArray, List.set_cons_zero, List.set_cons_succ, i64_w, i32_w]
         rfl
        refine pure_ (i := 3) (N := some 34) (v := ?_) (a' := ?_) #[true, false, false, true, false, false, false] rfl rfl (by kernel_rfl) (fun _ _ _ h => h) (Or.inl ⟨by rfl, ?_⟩) ?_ ?_
        rotate_left
        ·intro w'
         go_simp
         with_reducible rfl
        rotate_left
        ·simp only [Act.put, List.setIfInBounds_toArray, List.set_cons_zero, List.set_cons_succ, i64_w, i32_w]
         rfl
        refine take_ (i := 1) (N := some 32) (v := ?_) (a' := ?_) #[true, true, false, true, false, false, false] rfl rfl (by kernel_rfl) (fun _ _ _ h => h) (Or.inl ⟨by rfl, ?_⟩) hHeld ?_ ?_
        rotate_left
        ·rintro w' ⟨s0, s1, s2⟩
         go_simp
         with_reducible rfl
        rotate_left
        ·simp only [Act.put, List.setIfInBounds_toArray, List.set_cons_zero, List.set_cons_succ, i64_w, i32_w]
         rfl
        refine pure_ (i := 2) (N := some 33) (v := ?_) (a' := ?_) #[true, true, true, true, false, false, false] rfl rfl (by kernel_rfl) (fun _ _ _ h => h) (Or.inl ⟨by rfl, ?_⟩) ?_ ?_
        rotate_left
        ·intro w'
         go_simp
         with_reducible rfl
        rotate_left
        ·simp only [Act.put, List.setIfInBounds_toArray, List.set_cons_zero, List.set_cons_succ, i64_w, i32_w]
         rfl
        refine take_ (i := 4) (N := some 35) (v := ?_) (a' := ?_) #[true, true, true, true, true, false, false] rfl rfl (by kernel_rfl) (fun _ _ _ h => h) (Or.inl ⟨by rfl, ?_⟩) hHeld ?_ ?_
        rotate_left
        ·rintro w' ⟨s0, s1, s2⟩
         go_simp
         with_reducible rfl
        rotate_left
        ·simp only [Act.put, List.setIfInBounds_toArray, List.set_cons_zero, List.set_cons_succ, i64_w, i32_w]
         rfl
        refine pure_ (i := 5) (N := some 36) (v := ?_) (a' := ?_) #[true, true, true, true, true, true, false] rfl rfl (by kernel_rfl) (fun _ _ _ h => h) (Or.inl ⟨by rfl, ?_⟩) ?_ ?_
        rotate_left
        ·intro w'
         go_simp
         with_reducible rfl
        rotate_left
        ·simp only [Act.put, List.setIfInBounds_toArray, List.set_cons_zero, List.set_cons_succ, i64_w, i32_w]
         rfl
        refine pure_ (i := 6) (N := some 37) (v := ?_) (a' := ?_) #[true, true, true, true, true, true, true] rfl rfl (by kernel_rfl) (fun _ _ _ h => h) (Or.inl ⟨by rfl, ?_⟩) ?_ ?_
        rotate_left
        ·intro w'
         go_simp
         with_reducible rfl
        rotate_left
        ·simp only [Act.put, List.setIfInBounds_toArray, List.set_cons_zero, List.set_cons_succ, i64_w, i32_w]
         rfl
        refine done_ (by kernel_rfl) ?_
        obtain ⟨hcz50_0, hcz50_1, hcz50_2, hfz50_0, hfz50_1, hfz50_2⟩ := bK3 (w := w49) BK345
        try go_wp2_with (first | ((with_reducible refine gate_callee (f := 43) rfl ?_); refine gL (some 41) Try.func43 #[.agg #[.int .i64 (wrap64 ((wrap64 ((wrap64 ((wrap64 (bt a0 0)) * 256)) + (wrap64 (bt a0 1)))) - 1)), .int .i64 t348, .bool false]] ?_; (with_reducible refine (impl_PointText.calls (wrap64 ((wrap64 ((wrap64 ((wrap64 (bt a0 0)) * 256)) + (wrap64 (bt a0 1)))) - 1)) t348 false t350 _ A36.out).mono ?_); rintro e w51 ⟨rfl, hb⟩; refine ⟨_, rfl, ?_⟩; replace BK344 := bB BK344 hb; replace BK345 := bB BK345 hb; replace HB := bS HB hb; (try clear hb); obtain ⟨hcz52_0, hcz52_1, hcz52_2, hfz52_0, hfz52_1, hfz52_2⟩ := bK3 (w := w51) BK345; obtain ⟨hcz53_0, hcz53_1, hcz53_2, hfz53_0, hfz53_1, hfz53_2⟩ := bK3 (w := w51) BK344))
        refine bodyPost_ret (results_ct rfl _ _ gb344 25 #[.int .i64 (wrap64 ((wrap64 ((wrap64 ((wrap64 (bt a0 0)) * 256)) + (wrap64 (bt a0 1)))) - 1)), .int .i64 t348, .bool false] (0, 0) _ rfl (bU BK344) Try.underlying25 rfl (by kernel_rfl)) rfl ?_
        exact ⟨rR, bZ HB⟩
       ·rw [if_neg c37] at H
        have c37b0 : (t350.toList == a0.toList) = false := beq_eq_false_iff_ne.mpr c37
        have c37b1 : (t350.toList != a0.toList) = true := bne_iff_ne.mpr c37
        simp only [Option.some.injEq, Prod.mk.injEq] at H
        obtain ⟨rfl, rfl, rfl, rfl⟩ := H
        go_enter Try.func44, Try.ntmps44
        try go_wp2_with (first | ((with_reducible refine gate_dst (N := 2) rfl ?_); refine bE 2 #[.int .i64 0, .int .i64 0, .bool false] 25 ?_; intro gb344 hg w54 hbox hb; have BK344 := Aside0.mk (hbox); have GW344 := bG HB hg; have GE344 := bG HB hg; replace HB := bS HB hb; clear hb hbox hg))
        replace BK344 := Aside0.mk (blk_drew BK344.out)
        replace HB := Aside0.mk (below_drew1 HB.out)
        have p4 : 0 ≤ (0 : Int) := (by omega)
        have q4 : 0 < a0.size := (by have : (0 : Int) < (a0.size : Int) := of_decide_eq_true (by first | (with_reducible assumption) | assumption); omega)
        have hx4 : ∀ h : 0 < a0.size, ((a0[0]'h).toNat : Int) = bt a0 0 := bt_at a0 0
        clear p4
        have qi4 : (0 < (a0.size : Int)) = True := eq_true (of_decide_eq_true (by first | (with_reducible assumption) | assumption))
        replace q4 := eq_true q4
        have p6 : 0 ≤ (1 : Int) := (by omega)
        have q6 : 1 < a0.size := (by have : (1 : Int) < (a0.size : Int) := of_decide_eq_true (by first | (with_reducible assumption) | assumption); omega)
        have hx6 : ∀ h : 1 < a0.size, ((a0[1]'h).toNat : Int) = bt a0 1 := bt_at a0 1
        clear p6
        have qi6 : (1 < (a0.size : Int)) = True := eq_true (of_decide_eq_true (by first | (with_reducible assumption) | assumption))
        replace q6 := eq_true q6
        refine start_ (n := 12) (S := fun w' => True) (ds := []) #[false, false, false, false, false, false, false, false, false, false, false, false] (by kernel_rfl) rfl rfl trivial (fun hHeld => ?_); refine with_tabW impl_ReadPoint.tab3 impl_ReadPoint.bits3 (fun HT_ HW_ => ?_)
        generalize w54.drew = w55 at BK344 HB hHeld ⊢
        refine pI 0 (some 9) HT_.out ?_
        refine pI 4 (some 13) HT_.out ?_
        refine take_ (i := 1) (N := some 10) (v := ?_) (a' := ?_) #[true, true, false, false, true, false, false, false, false, false, false, false] rfl rfl (take_ofW HT_.out HW_.out (by kernel_rfl)) (fun _ _ _ h => h) (Or.inl ⟨by rfl, ?_⟩) hHeld ?_ ?_
        rotate_left
        ·intro w' _
         go_simp
         with_reducible rfl
        rotate_left
        ·simp only [Act.put, List.setIfInBounds_toArray, List.set_cons_zero, List.set_cons_succ, i64_w, i32_w]
         rfl
        refine pI 2 (some 11) HT_.out ?_
        refine pI 3 (some 12) HT_.out ?_
        refine take_ (i := 5) (N := some 14) (v := ?_) (a' := ?_) #[true, true, true, true, true, true, false, false, false, false, false, false] rfl rfl (take_ofW HT_.out HW_.out (by kernel_rfl)) (fun _ _ _ h => h) (Or.inl ⟨by rfl, ?_⟩) hHeld ?_ ?_
        rotate_left
        ·intro w' _
         go_simp
         with_reducible rfl
        rotate_left
        ·simp only [Act.put, List.setIfInBounds_toArray, List.set_cons_zero, List.set_cons_succ, i64_w, i32_w]
         rfl
        refine pI 6 (some 15) HT_.out ?_
        refine pI 7 (some 16) HT_.out ?_
        refine pI 8 (some 17) HT_.out ?_
        refine pI 9 (some 18) HT_.out ?_
        refine oI 10 (some 4) HT_.out (fun K hK => ?_)
        refine box_step ?hg (N := 4) ?hd (cs := #[.int .i64 0, .int .i64 0, .bool false]) (t := 25) ?hr ?_; (case hd => rfl); (case hg => rfl); (case hr => first | (go_simp; done) | (go_simp; rfl))
        intro gb345 hg w56 hbox hb
        have BK345 := Aside0.mk (hbox)
        have GW345 := bG HB hg
        have GE345 := bG HB hg
        replace HB := bS HB hb
        have NB344_345 := bL BK344 hg
        have NB345_344 := bR BK344 hg
        replace BK344 := bB BK344 hb
        clear hb hbox hg
        refine hK.out _ _ trivial (fun hHeld => ?_)
        clear hK K
        refine nO (some 4) ?_
        refine oI 11 (none) HT_.out (fun K hK => ?_)
        have hs57 : w56.cell? ⟨gb345, 0, none⟩ = some (.int .i64 0) := bc BK345 0
        have hfs57 := blk_frozen BK345.out 0
        obtain ⟨hns57_0, hms57_0⟩ := nB NB344_345
        have hs58 : w56.cell? ⟨gb345, 1, none⟩ = some (.int .i64 0) := bc BK345 1
        have hfs58 := blk_frozen BK345.out 1
        obtain ⟨hns58_0, hms58_0⟩ := nB NB344_345
        have hs59 : w56.cell? ⟨gb345, 2, none⟩ = some (.bool false) := bc BK345 2
        have hfs59 := blk_frozen BK345.out 2
        obtain ⟨hns59_0, hms59_0⟩ := nB NB344_345
        refine skip_ (w1 := ?_) (by rfl) rfl ?_ ?_
        rotate_left
        ·go_simp
         rfl
        refine hK.out _ _ trivial (fun hHeld => ?_)
        clear hK K
        refine done_ (done_of HT_.out (by kernel_rfl)) ?_
        obtain ⟨hnb60, hnc60⟩ := nB NB345_344
        obtain ⟨hcz61_0, hcz61_1, hcz61_2, hfz61_0, hfz61_1, hfz61_2⟩ := bK3 (w := w56) BK345
        have q1_ : Aside0 ((((w56.setCell ⟨gb345, 0, none⟩ (.int .i64 (wrap64 ((wrap64 ((wrap64 ((wrap64 (bt a0 0)) * 256)) + (wrap64 (bt a0 1)))) - 1)))).setCell ⟨gb345, 1, none⟩ (.int .i64 0)).setCell ⟨gb345, 2, none⟩ (.bool false)).heap[gb345]? = some (.cells #[.int .i64 (wrap64 ((wrap64 ((wrap64 ((wrap64 (bt a0 0)) * 256)) + (wrap64 (bt a0 1)))) - 1)), .int .i64 0, .bool false] 25 (0, 0))) := ⟨by refine blk_put (cs := #[.int .i64 (wrap64 ((wrap64 ((wrap64 ((wrap64 (bt a0 0)) * 256)) + (wrap64 (bt a0 1)))) - 1)), .int .i64 0, .bool false]) ?_ 2 _ rfl; refine blk_put (cs := #[.int .i64 (wrap64 ((wrap64 ((wrap64 ((wrap64 (bt a0 0)) * 256)) + (wrap64 (bt a0 1)))) - 1)), .int .i64 0, .bool false]) ?_ 1 _ rfl; refine blk_put (cs := #[.int .i64 0, .int .i64 0, .bool false]) ?_ 0 _ rfl; exact BK345.out⟩
        have q2_ : Aside0 ((((w56.setCell ⟨gb345, 0, none⟩ (.int .i64 (wrap64 ((wrap64 ((wrap64 ((wrap64 (bt a0 0)) * 256)) + (wrap64 (bt a0 1)))) - 1)))).setCell ⟨gb345, 1, none⟩ (.int .i64 0)).setCell ⟨gb345, 2, none⟩ (.bool false)).heap[gb344]? = some (.cells #[.int .i64 0, .int .i64 0, .bool false] 25 (0, 0))) := ⟨by refine blk_far ?_ NB344_345.out _; refine blk_far ?_ NB344_345.out _; refine blk_far ?_ NB344_345.out _; exact BK344.out⟩
        have q3_ : Aside0 (Below w.heap.size w (((w56.setCell ⟨gb345, 0, none⟩ (.int .i64 (wrap64 ((wrap64 ((wrap64 ((wrap64 (bt a0 0)) * 256)) + (wrap64 (bt a0 1)))) - 1)))).setCell ⟨gb345, 1, none⟩ (.int .i64 0)).setCell ⟨gb345, 2, none⟩ (.bool false))) := ⟨bZ HB⟩
        generalize (((w56.setCell ⟨gb345, 0, none⟩ (.int .i64 (wrap64 ((wrap64 ((wrap64 ((wrap64 (bt a0 0)) * 256)) + (wrap64 (bt a0 1)))) - 1)))).setCell ⟨gb345, 1, none⟩ (.int .i64 0)).setCell ⟨gb345, 2, none⟩ (.bool false)) = wq_ at q1_ q2_ q3_ ⊢
        clear BK345 BK344 HB
        have BK345 := q1_
        have BK344 := q2_
        have HB := q3_
        clear q1_ q2_ q3_
        have hq345_0 : wq_.cell? ⟨gb345, 0, none⟩ = some (.int .i64 (wrap64 ((wrap64 ((wrap64 ((wrap64 (bt a0 0)) * 256)) + (wrap64 (bt a0 1)))) - 1))) := bc BK345 0
        have hr345_0 := blk_frozen BK345.out 0
        have hq345_1 : wq_.cell? ⟨gb345, 1, none⟩ = some (.int .i64 0) := bc BK345 1
        have hr345_1 := blk_frozen BK345.out 1
        have hq345_2 : wq_.cell? ⟨gb345, 2, none⟩ = some (.bool false) := bc BK345 2
        have hr345_2 := blk_frozen BK345.out 2
        have hq344_0 : wq_.cell? ⟨gb344, 0, none⟩ = some (.int .i64 0) := bc BK344 0
        have hr344_0 := blk_frozen BK344.out 0
        have hq344_1 : wq_.cell? ⟨gb344, 1, none⟩ = some (.int .i64 0) := bc BK344 1
        have hr344_1 := blk_frozen BK344.out 1
        have hq344_2 : wq_.cell? ⟨gb344, 2, none⟩ = some (.bool false) := bc BK344 2
        have hr344_2 := blk_frozen BK344.out 2
        try go_wp2_with (first | ((with_reducible refine gate_callee (f := 83) rfl ?_); refine gL (some 26) Try.func83 #[.int .i64 (wrap64 ((wrap64 ((wrap64 ((wrap64 (bt a0 0)) * 256)) + (wrap64 (bt a0 1)))) - 1))] ?_; (with_reducible refine (impl_curveAt.calls (wrap64 ((wrap64 ((wrap64 ((wrap64 (bt a0 0)) * 256)) + (wrap64 (bt a0 1)))) - 1)) t347 _ A31.out).mono ?_); rintro e w' ⟨rfl, ⟨nd, rfl⟩⟩; refine ⟨_, rfl, ?_⟩) | ((with_reducible refine gate_callee (f := 88) rfl ?_); refine gL (some 27) Try.func88 #[.int .i64 t347] ?_; (with_reducible refine (impl_FpRoot.calls k t347 t348 t349 _ A32.out).mono ?_); rintro e w62 ⟨rfl, hb⟩; refine ⟨_, rfl, ?_⟩; replace BK344 := bB BK344 hb; replace BK345 := bB BK345 hb; replace HB := bS HB hb; (try clear hb); obtain ⟨hcz63_0, hcz63_1, hcz63_2, hfz63_0, hfz63_1, hfz63_2⟩ := bK3 (w := w62) BK345))
        obtain ⟨w64, hW_⟩ : ∃ W_ : World, W_ = (w62.setCell ⟨gb345, 1, none⟩ (.int .i64 t348)) := ⟨_, rfl⟩
        replace BK344 := bW hW_ BK344
        replace BK345 := bX hW_ 25 #[.int .i64 (wrap64 ((wrap64 ((wrap64 ((wrap64 (bt a0 0)) * 256)) + (wrap64 (bt a0 1)))) - 1)), .int .i64 t348, .bool false] BK345
        replace HB := zW hW_ HB
        rw [← hW_]
        clear hW_
        replace BK344 := Aside0.mk (blk_drew BK344.out)
        replace BK345 := Aside0.mk (blk_drew BK345.out)
        replace HB := Aside0.mk (below_drew1 HB.out)
        have p34 : 0 ≤ (2 : Int) := (by omega)
        have q34 : 2 < a0.size := (by have : (2 : Int) < (a0.size : Int) := of_decide_eq_true (by first | (with_reducible assumption) | assumption); omega)
        have hx34 : ∀ h : 2 < a0.size, ((a0[2]'h).toNat : Int) = bt a0 2 := bt_at a0 2
        clear p34
        have qi34 : (2 < (a0.size : Int)) = True := eq_true (of_decide_eq_true (by first | (with_reducible assumption) | assumption))
        replace q34 := eq_true q34
        refine start_ (n := 7) (S := fun w' => w'.cell? ⟨gb345, 0, none⟩ = some (.int .i64 (wrap64 ((wrap64 ((wrap64 ((wrap64 (bt a0 0)) * 256)) + (wrap64 (bt a0 1)))) - 1))) ∧ w'.cell? ⟨gb345, 1, none⟩ = some (.int .i64 t348) ∧ w'.cell? ⟨gb345, 2, none⟩ = some (.bool false)) (ds := []) #[false, false, false, false, false, false, false] (by kernel_rfl) rfl rfl (bT3 BK345) (fun hHeld => ?_)
        generalize w64.drew = w65 at BK344 BK345 HB hHeld ⊢
        refine pure_ (i := 0) (N := some 31) (v := ?_) (a' := ?_) #[true, false, false, false, false, false, false] rfl rfl (by kernel_rfl) (fun _ _ _ h => h) (Or.inl ⟨by rfl, ?_⟩) ?_ ?_
        rotate_left
        ·intro w'
         go_simp
         with_reducible rfl
        rotate_left
        ·simp only [Act.put, List.setIfInBounds_toArray, List.set_cons_zero, List.set_cons_succ, i64_w, i32_w]
         rfl
        refine pure_ (i := 3) (N := some 34) (v := ?_) (a' := ?_) #[true, false, false, true, false, false, false] rfl rfl (by kernel_rfl) (fun _ _ _ h => h) (Or.inl ⟨by rfl, ?_⟩) ?_ ?_
        rotate_left
        ·intro w'
         go_simp
         with_reducible rfl
        rotate_left
        ·simp only [Act.put, List.setIfInBounds_toArray, List.set_cons_zero, List.set_cons_succ, i64_w, i32_w]
         rfl
        refine take_ (i := 1) (N := some 32) (v := ?_) (a' := ?_) #[true, true, false, true, false, false, false] rfl rfl (by kernel_rfl) (fun _ _ _ h => h) (Or.inl ⟨by rfl, ?_⟩) hHeld ?_ ?_
        rotate_left
        ·rintro w' ⟨s0, s1, s2⟩
         go_simp
         with_reducible rfl
        rotate_left
        ·simp only [Act.put, List.setIfInBounds_toArray, List.set_cons_zero, List.set_cons_succ, i64_w, i32_w]
         rfl
        refine pure_ (i := 2) (N := some 33) (v := ?_) (a' := ?_) #[true, true, true, true, false, false, false] rfl rfl (by kernel_rfl) (fun _ _ _ h => h) (Or.inl ⟨by rfl, ?_⟩) ?_ ?_
        rotate_left
        ·intro w'
         go_simp
         with_reducible rfl
        rotate_left
        ·simp only [Act.put, List.setIfInBounds_toArray, List.set_cons_zero, List.set_cons_succ, i64_w, i32_w]
         rfl
        refine take_ (i := 4) (N := some 35) (v := ?_) (a' := ?_) #[true, true, true, true, true, false, false] rfl rfl (by kernel_rfl) (fun _ _ _ h => h) (Or.inl ⟨by rfl, ?_⟩) hHeld ?_ ?_
        rotate_left
        ·rintro w' ⟨s0, s1, s2⟩
         go_simp
         with_reducible rfl
        rotate_left
        ·simp only [Act.put, List.setIfInBounds_toArray, List.set_cons_zero, List.set_cons_succ, i64_w, i32_w]
         rfl
        refine pure_ (i := 5) (N := some 36) (v := ?_) (a' := ?_) #[true, true, true, true, true, true, false] rfl rfl (by kernel_rfl) (fun _ _ _ h => h) (Or.inl ⟨by rfl, ?_⟩) ?_ ?_
        rotate_left
        ·intro w'
         go_simp
         with_reducible rfl
        rotate_left
        ·simp only [Act.put, List.setIfInBounds_toArray, List.set_cons_zero, List.set_cons_succ, i64_w, i32_w]
         rfl
        refine pure_ (i := 6) (N := some 37) (v := ?_) (a' := ?_) #[true, true, true, true, true, true, true] rfl rfl (by kernel_rfl) (fun _ _ _ h => h) (Or.inl ⟨by rfl, ?_⟩) ?_ ?_
        rotate_left
        ·intro w'
         go_simp
         with_reducible rfl
        rotate_left
        ·simp only [Act.put, List.setIfInBounds_toArray, List.set_cons_zero, List.set_cons_succ, i64_w, i32_w]
         rfl
        refine done_ (by kernel_rfl) ?_
        obtain ⟨hcz66_0, hcz66_1, hcz66_2, hfz66_0, hfz66_1, hfz66_2⟩ := bK3 (w := w65) BK345
        try go_wp2_with (first | ((with_reducible refine gate_callee (f := 43) rfl ?_); refine gL (some 41) Try.func43 #[.agg #[.int .i64 (wrap64 ((wrap64 ((wrap64 ((wrap64 (bt a0 0)) * 256)) + (wrap64 (bt a0 1)))) - 1)), .int .i64 t348, .bool false]] ?_; (with_reducible refine (impl_PointText.calls (wrap64 ((wrap64 ((wrap64 ((wrap64 (bt a0 0)) * 256)) + (wrap64 (bt a0 1)))) - 1)) t348 false t350 _ A36.out).mono ?_); rintro e w67 ⟨rfl, hb⟩; refine ⟨_, rfl, ?_⟩; replace BK344 := bB BK344 hb; replace BK345 := bB BK345 hb; replace HB := bS HB hb; (try clear hb); obtain ⟨hcz68_0, hcz68_1, hcz68_2, hfz68_0, hfz68_1, hfz68_2⟩ := bK3 (w := w67) BK344))
        refine bodyPost_ret (results_ct rfl _ _ gb344 25 #[.int .i64 0, .int .i64 0, .bool false] (0, 0) _ rfl (bU BK344) Try.underlying25 rfl (by kernel_rfl)) rfl ?_
        exact ⟨rR, bZ HB⟩
      ·rw [if_neg c35] at H
       have c35b0 : ((Int.tmod t348 2) == (wrap64 (bt a0 2))) = false := beq_eq_false_iff_ne.mpr c35
       have c35b1 : ((Int.tmod t348 2) != (wrap64 (bt a0 2))) = true := bne_iff_ne.mpr c35
       replace H := Option.bind_eq_some_iff.mp H
       obtain ⟨⟨t351, t352, t353⟩, A690, H⟩ := H
       have A69 := Aside0.mk A690
       clear A690
       replace H := Option.bind_eq_some_iff.mp H
       obtain ⟨t354, A700, H⟩ := H
       have A70 := Aside0.mk A700
       clear A700
       by_cases c71 : t354.toList = a0.toList
       ·rw [if_pos c71] at H
        have c71b0 : (t354.toList == a0.toList) = true := beq_iff_eq.mpr c71
        have c71b1 : (t354.toList != a0.toList) = false := bne_eq_false_iff_eq.mpr c71
        clear c71
        simp only [Option.some.injEq, Prod.mk.injEq] at H
        obtain ⟨rfl, rfl, rfl, rfl⟩ := H
        go_enter Try.func44, Try.ntmps44
        try go_wp2_with (first | ((with_reducible refine gate_dst (N := 2) rfl ?_); refine bE 2 #[.int .i64 0, .int .i64 0, .bool false] 25 ?_; intro gb344 hg w72 hbox hb; have BK344 := Aside0.mk (hbox); have GW344 := bG HB hg; have GE344 := bG HB hg; replace HB := bS HB hb; clear hb hbox hg))
        replace BK344 := Aside0.mk (blk_drew BK344.out)
        replace HB := Aside0.mk (below_drew1 HB.out)
        have p4 : 0 ≤ (0 : Int) := (by omega)
        have q4 : 0 < a0.size := (by have : (0 : Int) < (a0.size : Int) := of_decide_eq_true (by first | (with_reducible assumption) | assumption); omega)
        have hx4 : ∀ h : 0 < a0.size, ((a0[0]'h).toNat : Int) = bt a0 0 := bt_at a0 0
        clear p4
        have qi4 : (0 < (a0.size : Int)) = True := eq_true (of_decide_eq_true (by first | (with_reducible assumption) | assumption))
        replace q4 := eq_true q4
        have p6 : 0 ≤ (1 : Int) := (by omega)
        have q6 : 1 < a0.size := (by have : (1 : Int) < (a0.size : Int) := of_decide_eq_true (by first | (with_reducible assumption) | assumption); omega)
        have hx6 : ∀ h : 1 < a0.size, ((a0[1]'h).toNat : Int) = bt a0 1 := bt_at a0 1
        clear p6
        have qi6 : (1 < (a0.size : Int)) = True := eq_true (of_decide_eq_true (by first | (with_reducible assumption) | assumption))
        replace q6 := eq_true q6
        refine start_ (n := 12) (S := fun w' => True) (ds := []) #[false, false, false, false, false, false, false, false, false, false, false, false] (by kernel_rfl) rfl rfl trivial (fun hHeld => ?_); refine with_tabW impl_ReadPoint.tab3 impl_ReadPoint.bits3 (fun HT_ HW_ => ?_)
        generalize w72.drew = w73 at BK344 HB hHeld ⊢
        refine pI 0 (some 9) HT_.out ?_
        refine pI 4 (some 13) HT_.out ?_
        refine take_ (i := 1) (N := some 10) (v := ?_) (a' := ?_) #[true, true, false, false, true, false, false, false, false, false, false, false] rfl rfl (take_ofW HT_.out HW_.out (by kernel_rfl)) (fun _ _ _ h => h) (Or.inl ⟨by rfl, ?_⟩) hHeld ?_ ?_
        rotate_left
        ·intro w' _
         go_simp
         with_reducible rfl
        rotate_left
        ·simp only [Act.put, List.setIfInBounds_toArray, List.set_cons_zero, List.set_cons_succ, i64_w, i32_w]
         rfl
        refine pI 2 (some 11) HT_.out ?_
        refine pI 3 (some 12) HT_.out ?_
        refine take_ (i := 5) (N := some 14) (v := ?_) (a' := ?_) #[true, true, true, true, true, true, false, false, false, false, false, false] rfl rfl (take_ofW HT_.out HW_.out (by kernel_rfl)) (fun _ _ _ h => h) (Or.inl ⟨by rfl, ?_⟩) hHeld ?_ ?_
        rotate_left
        ·intro w' _
         go_simp
         with_reducible rfl
        rotate_left
        ·simp only [Act.put, List.setIfInBounds_toArray, List.set_cons_zero, List.set_cons_succ, i64_w, i32_w]
         rfl
        refine pI 6 (some 15) HT_.out ?_
        refine pI 7 (some 16) HT_.out ?_
        refine pI 8 (some 17) HT_.out ?_
        refine pI 9 (some 18) HT_.out ?_
        refine oI 10 (some 4) HT_.out (fun K hK => ?_)
        refine box_step ?hg (N := 4) ?hd (cs := #[.int .i64 0, .int .i64 0, .bool false]) (t := 25) ?hr ?_; (case hd => rfl); (case hg => rfl); (case hr => first | (go_simp; done) | (go_simp; rfl))
        intro gb345 hg w74 hbox hb
        have BK345 := Aside0.mk (hbox)
        have GW345 := bG HB hg
        have GE345 := bG HB hg
        replace HB := bS HB hb
        have NB344_345 := bL BK344 hg
        have NB345_344 := bR BK344 hg
        replace BK344 := bB BK344 hb
        clear hb hbox hg
        refine hK.out _ _ trivial (fun hHeld => ?_)
        clear hK K
        refine nO (some 4) ?_
        refine oI 11 (none) HT_.out (fun K hK => ?_)
        have hs75 : w74.cell? ⟨gb345, 0, none⟩ = some (.int .i64 0) := bc BK345 0
        have hfs75 := blk_frozen BK345.out 0
        obtain ⟨hns75_0, hms75_0⟩ := nB NB344_345
        have hs76 : w74.cell? ⟨gb345, 1, none⟩ = some (.int .i64 0) := bc BK345 1
        have hfs76 := blk_frozen BK345.out 1
        obtain ⟨hns76_0, hms76_0⟩ := nB NB344_345
        have hs77 : w74.cell? ⟨gb345, 2, none⟩ = some (.bool false) := bc BK345 2
        have hfs77 := blk_frozen BK345.out 2
        obtain ⟨hns77_0, hms77_0⟩ := nB NB344_345
        refine skip_ (w1 := ?_) (by rfl) rfl ?_ ?_
        rotate_left
        ·go_simp
         rfl
        refine hK.out _ _ trivial (fun hHeld => ?_)
        clear hK K
        refine done_ (done_of HT_.out (by kernel_rfl)) ?_
        obtain ⟨hnb78, hnc78⟩ := nB NB345_344
        obtain ⟨hcz79_0, hcz79_1, hcz79_2, hfz79_0, hfz79_1, hfz79_2⟩ := bK3 (w := w74) BK345
        have q1_ : Aside0 ((((w74.setCell ⟨gb345, 0, none⟩ (.int .i64 (wrap64 ((wrap64 ((wrap64 ((wrap64 (bt a0 0)) * 256)) + (wrap64 (bt a0 1)))) - 1)))).setCell ⟨gb345, 1, none⟩ (.int .i64 0)).setCell ⟨gb345, 2, none⟩ (.bool false)).heap[gb345]? = some (.cells #[.int .i64 (wrap64 ((wrap64 ((wrap64 ((wrap64 (bt a0 0)) * 256)) + (wrap64 (bt a0 1)))) - 1)), .int .i64 0, .bool false] 25 (0, 0))) := ⟨by refine blk_put (cs := #[.int .i64 (wrap64 ((wrap64 ((wrap64 ((wrap64 (bt a0 0)) * 256)) + (wrap64 (bt a0 1)))) - 1)), .int .i64 0, .bool false]) ?_ 2 _ rfl; refine blk_put (cs := #[.int .i64 (wrap64 ((wrap64 ((wrap64 ((wrap64 (bt a0 0)) * 256)) + (wrap64 (bt a0 1)))) - 1)), .int .i64 0, .bool false]) ?_ 1 _ rfl; refine blk_put (cs := #[.int .i64 0, .int .i64 0, .bool false]) ?_ 0 _ rfl; exact BK345.out⟩
        have q2_ : Aside0 ((((w74.setCell ⟨gb345, 0, none⟩ (.int .i64 (wrap64 ((wrap64 ((wrap64 ((wrap64 (bt a0 0)) * 256)) + (wrap64 (bt a0 1)))) - 1)))).setCell ⟨gb345, 1, none⟩ (.int .i64 0)).setCell ⟨gb345, 2, none⟩ (.bool false)).heap[gb344]? = some (.cells #[.int .i64 0, .int .i64 0, .bool false] 25 (0, 0))) := ⟨by refine blk_far ?_ NB344_345.out _; refine blk_far ?_ NB344_345.out _; refine blk_far ?_ NB344_345.out _; exact BK344.out⟩
        have q3_ : Aside0 (Below w.heap.size w (((w74.setCell ⟨gb345, 0, none⟩ (.int .i64 (wrap64 ((wrap64 ((wrap64 ((wrap64 (bt a0 0)) * 256)) + (wrap64 (bt a0 1)))) - 1)))).setCell ⟨gb345, 1, none⟩ (.int .i64 0)).setCell ⟨gb345, 2, none⟩ (.bool false))) := ⟨bZ HB⟩
        generalize (((w74.setCell ⟨gb345, 0, none⟩ (.int .i64 (wrap64 ((wrap64 ((wrap64 ((wrap64 (bt a0 0)) * 256)) + (wrap64 (bt a0 1)))) - 1)))).setCell ⟨gb345, 1, none⟩ (.int .i64 0)).setCell ⟨gb345, 2, none⟩ (.bool false)) = wq_ at q1_ q2_ q3_ ⊢
        clear BK345 BK344 HB
        have BK345 := q1_
        have BK344 := q2_
        have HB := q3_
        clear q1_ q2_ q3_
        have hq345_0 : wq_.cell? ⟨gb345, 0, none⟩ = some (.int .i64 (wrap64 ((wrap64 ((wrap64 ((wrap64 (bt a0 0)) * 256)) + (wrap64 (bt a0 1)))) - 1))) := bc BK345 0
        have hr345_0 := blk_frozen BK345.out 0
        have hq345_1 : wq_.cell? ⟨gb345, 1, none⟩ = some (.int .i64 0) := bc BK345 1
        have hr345_1 := blk_frozen BK345.out 1
        have hq345_2 : wq_.cell? ⟨gb345, 2, none⟩ = some (.bool false) := bc BK345 2
        have hr345_2 := blk_frozen BK345.out 2
        have hq344_0 : wq_.cell? ⟨gb344, 0, none⟩ = some (.int .i64 0) := bc BK344 0
        have hr344_0 := blk_frozen BK344.out 0
        have hq344_1 : wq_.cell? ⟨gb344, 1, none⟩ = some (.int .i64 0) := bc BK344 1
        have hr344_1 := blk_frozen BK344.out 1
        have hq344_2 : wq_.cell? ⟨gb344, 2, none⟩ = some (.bool false) := bc BK344 2
        have hr344_2 := blk_frozen BK344.out 2
        try go_wp2_with (first | ((with_reducible refine gate_callee (f := 83) rfl ?_); refine gL (some 26) Try.func83 #[.int .i64 (wrap64 ((wrap64 ((wrap64 ((wrap64 (bt a0 0)) * 256)) + (wrap64 (bt a0 1)))) - 1))] ?_; (with_reducible refine (impl_curveAt.calls (wrap64 ((wrap64 ((wrap64 ((wrap64 (bt a0 0)) * 256)) + (wrap64 (bt a0 1)))) - 1)) t347 _ A31.out).mono ?_); rintro e w' ⟨rfl, ⟨nd, rfl⟩⟩; refine ⟨_, rfl, ?_⟩) | ((with_reducible refine gate_callee (f := 88) rfl ?_); refine gL (some 27) Try.func88 #[.int .i64 t347] ?_; (with_reducible refine (impl_FpRoot.calls k t347 t348 t349 _ A32.out).mono ?_); rintro e w80 ⟨rfl, hb⟩; refine ⟨_, rfl, ?_⟩; replace BK344 := bB BK344 hb; replace BK345 := bB BK345 hb; replace HB := bS HB hb; (try clear hb); obtain ⟨hcz81_0, hcz81_1, hcz81_2, hfz81_0, hfz81_1, hfz81_2⟩ := bK3 (w := w80) BK345))
        obtain ⟨w82, hW_⟩ : ∃ W_ : World, W_ = (w80.setCell ⟨gb345, 1, none⟩ (.int .i64 t348)) := ⟨_, rfl⟩
        replace BK344 := bW hW_ BK344
        replace BK345 := bX hW_ 25 #[.int .i64 (wrap64 ((wrap64 ((wrap64 ((wrap64 (bt a0 0)) * 256)) + (wrap64 (bt a0 1)))) - 1)), .int .i64 t348, .bool false] BK345
        replace HB := zW hW_ HB
        rw [← hW_]
        clear hW_
        replace BK344 := Aside0.mk (blk_drew BK344.out)
        replace BK345 := Aside0.mk (blk_drew BK345.out)
        replace HB := Aside0.mk (below_drew1 HB.out)
        have p34 : 0 ≤ (2 : Int) := (by omega)
        have q34 : 2 < a0.size := (by have : (2 : Int) < (a0.size : Int) := of_decide_eq_true (by first | (with_reducible assumption) | assumption); omega)
        have hx34 : ∀ h : 2 < a0.size, ((a0[2]'h).toNat : Int) = bt a0 2 := bt_at a0 2
        clear p34
        have qi34 : (2 < (a0.size : Int)) = True := eq_true (of_decide_eq_true (by first | (with_reducible assumption) | assumption))
        replace q34 := eq_true q34
        refine start_ (n := 7) (S := fun w' => w'.cell? ⟨gb345, 0, none⟩ = some (.int .i64 (wrap64 ((wrap64 ((wrap64 ((wrap64 (bt a0 0)) * 256)) + (wrap64 (bt a0 1)))) - 1))) ∧ w'.cell? ⟨gb345, 1, none⟩ = some (.int .i64 t348) ∧ w'.cell? ⟨gb345, 2, none⟩ = some (.bool false)) (ds := []) #[false, false, false, false, false, false, false] (by kernel_rfl) rfl rfl (bT3 BK345) (fun hHeld => ?_)
        generalize w82.drew = w83 at BK344 BK345 HB hHeld ⊢
        refine pure_ (i := 0) (N := some 31) (v := ?_) (a' := ?_) #[true, false, false, false, false, false, false] rfl rfl (by kernel_rfl) (fun _ _ _ h => h) (Or.inl ⟨by rfl, ?_⟩) ?_ ?_
        rotate_left
        ·intro w'
         go_simp
         with_reducible rfl
        rotate_left
        ·simp only [Act.put, List.setIfInBounds_toArray, List.set_cons_zero, List.set_cons_succ, i64_w, i32_w]
         rfl
        refine pure_ (i := 3) (N := some 34) (v := ?_) (a' := ?_) #[true, false, false, true, false, false, false] rfl rfl (by kernel_rfl) (fun _ _ _ h => h) (Or.inl ⟨by rfl, ?_⟩) ?_ ?_
        rotate_left
        ·intro w'
         go_simp
         with_reducible rfl
        rotate_left
        ·simp only [Act.put, List.setIfInBounds_toArray, List.set_cons_zero, List.set_cons_succ, i64_w, i32_w]
         rfl
        refine take_ (i := 1) (N := some 32) (v := ?_) (a' := ?_) #[true, true, false, true, false, false, false] rfl rfl (by kernel_rfl) (fun _ _ _ h => h) (Or.inl ⟨by rfl, ?_⟩) hHeld ?_ ?_
        rotate_left
        ·rintro w' ⟨s0, s1, s2⟩
         go_simp
         with_reducible rfl
        rotate_left
        ·simp only [Act.put, List.setIfInBounds_toArray, List.set_cons_zero, List.set_cons_succ, i64_w, i32_w]
         rfl
        refine pure_ (i := 2) (N := some 33) (v := ?_) (a' := ?_) #[true, true, true, true, false, false, false] rfl rfl (by kernel_rfl) (fun _ _ _ h => h) (Or.inl ⟨by rfl, ?_⟩) ?_ ?_
        rotate_left
        ·intro w'
         go_simp
         with_reducible rfl
        rotate_left
        ·simp only [Act.put, List.setIfInBounds_toArray, List.set_cons_zero, List.set_cons_succ, i64_w, i32_w]
         rfl
        refine take_ (i := 4) (N := some 35) (v := ?_) (a' := ?_) #[true, true, true, true, true, false, false] rfl rfl (by kernel_rfl) (fun _ _ _ h => h) (Or.inl ⟨by rfl, ?_⟩) hHeld ?_ ?_
        rotate_left
        ·rintro w' ⟨s0, s1, s2⟩
         go_simp
         with_reducible rfl
        rotate_left
        ·simp only [Act.put, List.setIfInBounds_toArray, List.set_cons_zero, List.set_cons_succ, i64_w, i32_w]
         rfl
        refine pure_ (i := 5) (N := some 36) (v := ?_) (a' := ?_) #[true, true, true, true, true, true, false] rfl rfl (by kernel_rfl) (fun _ _ _ h => h) (Or.inl ⟨by rfl, ?_⟩) ?_ ?_
        rotate_left
        ·intro w'
         go_simp
         with_reducible rfl
        rotate_left
        ·simp only [Act.put, List.setIfInBounds_toArray, List.set_cons_zero, List.set_cons_succ, i64_w, i32_w]
         rfl
        refine pure_ (i := 6) (N := some 37) (v := ?_) (a' := ?_) #[true, true, true, true, true, true, true] rfl rfl (by kernel_rfl) (fun _ _ _ h => h) (Or.inl ⟨by rfl, ?_⟩) ?_ ?_
        rotate_left
        ·intro w'
         go_simp
         with_reducible rfl
        rotate_left
        ·simp only [Act.put, List.setIfInBounds_toArray, List.set_cons_zero, List.set_cons_succ, i64_w, i32_w]
         rfl
        refine done_ (by kernel_rfl) ?_
        obtain ⟨hcz84_0, hcz84_1, hcz84_2, hfz84_0, hfz84_1, hfz84_2⟩ := bK3 (w := w83) BK345
        try go_wp2_with (first | ((with_reducible refine gate_callee (f := 30) rfl ?_); refine gL (some 39) Try.func30 #[.agg #[.int .i64 (wrap64 ((wrap64 ((wrap64 ((wrap64 (bt a0 0)) * 256)) + (wrap64 (bt a0 1)))) - 1)), .int .i64 t348, .bool false]] ?_; (with_reducible refine (impl_PointNeg.calls (wrap64 ((wrap64 ((wrap64 ((wrap64 (bt a0 0)) * 256)) + (wrap64 (bt a0 1)))) - 1)) t348 false t351 t352 t353 _ A69.out).mono ?_); rintro e w85 ⟨rfl, hb⟩; refine ⟨_, rfl, ?_⟩; replace BK344 := bB BK344 hb; replace BK345 := bB BK345 hb; replace HB := bS HB hb; (try clear hb); obtain ⟨hcz86_0, hcz86_1, hcz86_2, hfz86_0, hfz86_1, hfz86_2⟩ := bK3 (w := w85) BK345) | ((with_reducible refine gate_callee (f := 43) rfl ?_); refine gL (some 41) Try.func43 #[.agg #[.int .i64 t351, .int .i64 t352, .bool t353]] ?_; (with_reducible refine (impl_PointText.calls t351 t352 t353 t354 _ A70.out).mono ?_); rintro e w87 ⟨rfl, hb⟩; refine ⟨_, rfl, ?_⟩; replace BK344 := bB BK344 hb; replace BK345 := bV 25 #[.int .i64 t351, .int .i64 t352, .bool t353] BK345 hb; replace HB := bS HB hb; (try clear hb); obtain ⟨hcz88_0, hcz88_1, hcz88_2, hfz88_0, hfz88_1, hfz88_2⟩ := bK3 (w := w87) BK345; obtain ⟨hcz89_0, hcz89_1, hcz89_2, hfz89_0, hfz89_1, hfz89_2⟩ := bK3 (w := w87) BK344))
        refine bodyPost_ret (results_ct rfl _ _ gb344 25 #[.int .i64 t351, .int .i64 t352, .bool t353] (0, 0) _ rfl (bU BK344) Try.underlying25 rfl (by kernel_rfl)) rfl ?_
        exact ⟨rR, bZ HB⟩
       ·rw [if_neg c71] at H
        have c71b0 : (t354.toList == a0.toList) = false := beq_eq_false_iff_ne.mpr c71
        have c71b1 : (t354.toList != a0.toList) = true := bne_iff_ne.mpr c71
        simp only [Option.some.injEq, Prod.mk.injEq] at H
        obtain ⟨rfl, rfl, rfl, rfl⟩ := H
        go_enter Try.func44, Try.ntmps44
        try go_wp2_with (first | ((with_reducible refine gate_dst (N := 2) rfl ?_); refine bE 2 #[.int .i64 0, .int .i64 0, .bool false] 25 ?_; intro gb344 hg w90 hbox hb; have BK344 := Aside0.mk (hbox); have GW344 := bG HB hg; have GE344 := bG HB hg; replace HB := bS HB hb; clear hb hbox hg))
        replace BK344 := Aside0.mk (blk_drew BK344.out)
        replace HB := Aside0.mk (below_drew1 HB.out)
        have p4 : 0 ≤ (0 : Int) := (by omega)
        have q4 : 0 < a0.size := (by have : (0 : Int) < (a0.size : Int) := of_decide_eq_true (by first | (with_reducible assumption) | assumption); omega)
        have hx4 : ∀ h : 0 < a0.size, ((a0[0]'h).toNat : Int) = bt a0 0 := bt_at a0 0
        clear p4
        have qi4 : (0 < (a0.size : Int)) = True := eq_true (of_decide_eq_true (by first | (with_reducible assumption) | assumption))
        replace q4 := eq_true q4
        have p6 : 0 ≤ (1 : Int) := (by omega)
        have q6 : 1 < a0.size := (by have : (1 : Int) < (a0.size : Int) := of_decide_eq_true (by first | (with_reducible assumption) | assumption); omega)
        have hx6 : ∀ h : 1 < a0.size, ((a0[1]'h).toNat : Int) = bt a0 1 := bt_at a0 1
        clear p6
        have qi6 : (1 < (a0.size : Int)) = True := eq_true (of_decide_eq_true (by first | (with_reducible assumption) | assumption))
        replace q6 := eq_true q6
        refine start_ (n := 12) (S := fun w' => True) (ds := []) #[false, false, false, false, false, false, false, false, false, false, false, false] (by kernel_rfl) rfl rfl trivial (fun hHeld => ?_); refine with_tabW impl_ReadPoint.tab3 impl_ReadPoint.bits3 (fun HT_ HW_ => ?_)
        generalize w90.drew = w91 at BK344 HB hHeld ⊢
        refine pI 0 (some 9) HT_.out ?_
        refine pI 4 (some 13) HT_.out ?_
        refine take_ (i := 1) (N := some 10) (v := ?_) (a' := ?_) #[true, true, false, false, true, false, false, false, false, false, false, false] rfl rfl (take_ofW HT_.out HW_.out (by kernel_rfl)) (fun _ _ _ h => h) (Or.inl ⟨by rfl, ?_⟩) hHeld ?_ ?_
        rotate_left
        ·intro w' _
         go_simp
         with_reducible rfl
        rotate_left
        ·simp only [Act.put, List.setIfInBounds_toArray, List.set_cons_zero, List.set_cons_succ, i64_w, i32_w]
         rfl
        refine pI 2 (some 11) HT_.out ?_
        refine pI 3 (some 12) HT_.out ?_
        refine take_ (i := 5) (N := some 14) (v := ?_) (a' := ?_) #[true, true, true, true, true, true, false, false, false, false, false, false] rfl rfl (take_ofW HT_.out HW_.out (by kernel_rfl)) (fun _ _ _ h => h) (Or.inl ⟨by rfl, ?_⟩) hHeld ?_ ?_
        rotate_left
        ·intro w' _
         go_simp
         with_reducible rfl
        rotate_left
        ·simp only [Act.put, List.setIfInBounds_toArray, List.set_cons_zero, List.set_cons_succ, i64_w, i32_w]
         rfl
        refine pI 6 (some 15) HT_.out ?_
        refine pI 7 (some 16) HT_.out ?_
        refine pI 8 (some 17) HT_.out ?_
        refine pI 9 (some 18) HT_.out ?_
        refine oI 10 (some 4) HT_.out (fun K hK => ?_)
        refine box_step ?hg (N := 4) ?hd (cs := #[.int .i64 0, .int .i64 0, .bool false]) (t := 25) ?hr ?_; (case hd => rfl); (case hg => rfl); (case hr => first | (go_simp; done) | (go_simp; rfl))
        intro gb345 hg w92 hbox hb
        have BK345 := Aside0.mk (hbox)
        have GW345 := bG HB hg
        have GE345 := bG HB hg
        replace HB := bS HB hb
        have NB344_345 := bL BK344 hg
        have NB345_344 := bR BK344 hg
        replace BK344 := bB BK344 hb
        clear hb hbox hg
        refine hK.out _ _ trivial (fun hHeld => ?_)
        clear hK K
        refine nO (some 4) ?_
        refine oI 11 (none) HT_.out (fun K hK => ?_)
        have hs93 : w92.cell? ⟨gb345, 0, none⟩ = some (.int .i64 0) := bc BK345 0
        have hfs93 := blk_frozen BK345.out 0
        obtain ⟨hns93_0, hms93_0⟩ := nB NB344_345
        have hs94 : w92.cell? ⟨gb345, 1, none⟩ = some (.int .i64 0) := bc BK345 1
        have hfs94 := blk_frozen BK345.out 1
        obtain ⟨hns94_0, hms94_0⟩ := nB NB344_345
        have hs95 : w92.cell? ⟨gb345, 2, none⟩ = some (.bool false) := bc BK345 2
        have hfs95 := blk_frozen BK345.out 2
        obtain ⟨hns95_0, hms95_0⟩ := nB NB344_345
        refine skip_ (w1 := ?_) (by rfl) rfl ?_ ?_
        rotate_left
        ·go_simp
         rfl
        refine hK.out _ _ trivial (fun hHeld => ?_)
        clear hK K
        refine done_ (done_of HT_.out (by kernel_rfl)) ?_
        obtain ⟨hnb96, hnc96⟩ := nB NB345_344
        obtain ⟨hcz97_0, hcz97_1, hcz97_2, hfz97_0, hfz97_1, hfz97_2⟩ := bK3 (w := w92) BK345
        have q1_ : Aside0 ((((w92.setCell ⟨gb345, 0, none⟩ (.int .i64 (wrap64 ((wrap64 ((wrap64 ((wrap64 (bt a0 0)) * 256)) + (wrap64 (bt a0 1)))) - 1)))).setCell ⟨gb345, 1, none⟩ (.int .i64 0)).setCell ⟨gb345, 2, none⟩ (.bool false)).heap[gb345]? = some (.cells #[.int .i64 (wrap64 ((wrap64 ((wrap64 ((wrap64 (bt a0 0)) * 256)) + (wrap64 (bt a0 1)))) - 1)), .int .i64 0, .bool false] 25 (0, 0))) := ⟨by refine blk_put (cs := #[.int .i64 (wrap64 ((wrap64 ((wrap64 ((wrap64 (bt a0 0)) * 256)) + (wrap64 (bt a0 1)))) - 1)), .int .i64 0, .bool false]) ?_ 2 _ rfl; refine blk_put (cs := #[.int .i64 (wrap64 ((wrap64 ((wrap64 ((wrap64 (bt a0 0)) * 256)) + (wrap64 (bt a0 1)))) - 1)), .int .i64 0, .bool false]) ?_ 1 _ rfl; refine blk_put (cs := #[.int .i64 0, .int .i64 0, .bool false]) ?_ 0 _ rfl; exact BK345.out⟩
        have q2_ : Aside0 ((((w92.setCell ⟨gb345, 0, none⟩ (.int .i64 (wrap64 ((wrap64 ((wrap64 ((wrap64 (bt a0 0)) * 256)) + (wrap64 (bt a0 1)))) - 1)))).setCell ⟨gb345, 1, none⟩ (.int .i64 0)).setCell ⟨gb345, 2, none⟩ (.bool false)).heap[gb344]? = some (.cells #[.int .i64 0, .int .i64 0, .bool false] 25 (0, 0))) := ⟨by refine blk_far ?_ NB344_345.out _; refine blk_far ?_ NB344_345.out _; refine blk_far ?_ NB344_345.out _; exact BK344.out⟩
        have q3_ : Aside0 (Below w.heap.size w (((w92.setCell ⟨gb345, 0, none⟩ (.int .i64 (wrap64 ((wrap64 ((wrap64 ((wrap64 (bt a0 0)) * 256)) + (wrap64 (bt a0 1)))) - 1)))).setCell ⟨gb345, 1, none⟩ (.int .i64 0)).setCell ⟨gb345, 2, none⟩ (.bool false))) := ⟨bZ HB⟩
        generalize (((w92.setCell ⟨gb345, 0, none⟩ (.int .i64 (wrap64 ((wrap64 ((wrap64 ((wrap64 (bt a0 0)) * 256)) + (wrap64 (bt a0 1)))) - 1)))).setCell ⟨gb345, 1, none⟩ (.int .i64 0)).setCell ⟨gb345, 2, none⟩ (.bool false)) = wq_ at q1_ q2_ q3_ ⊢
        clear BK345 BK344 HB
        have BK345 := q1_
        have BK344 := q2_
        have HB := q3_
        clear q1_ q2_ q3_
        have hq345_0 : wq_.cell? ⟨gb345, 0, none⟩ = some (.int .i64 (wrap64 ((wrap64 ((wrap64 ((wrap64 (bt a0 0)) * 256)) + (wrap64 (bt a0 1)))) - 1))) := bc BK345 0
        have hr345_0 := blk_frozen BK345.out 0
        have hq345_1 : wq_.cell? ⟨gb345, 1, none⟩ = some (.int .i64 0) := bc BK345 1
        have hr345_1 := blk_frozen BK345.out 1
        have hq345_2 : wq_.cell? ⟨gb345, 2, none⟩ = some (.bool false) := bc BK345 2
        have hr345_2 := blk_frozen BK345.out 2
        have hq344_0 : wq_.cell? ⟨gb344, 0, none⟩ = some (.int .i64 0) := bc BK344 0
        have hr344_0 := blk_frozen BK344.out 0
        have hq344_1 : wq_.cell? ⟨gb344, 1, none⟩ = some (.int .i64 0) := bc BK344 1
        have hr344_1 := blk_frozen BK344.out 1
        have hq344_2 : wq_.cell? ⟨gb344, 2, none⟩ = some (.bool false) := bc BK344 2
        have hr344_2 := blk_frozen BK344.out 2
        try go_wp2_with (first | ((with_reducible refine gate_callee (f := 83) rfl ?_); refine gL (some 26) Try.func83 #[.int .i64 (wrap64 ((wrap64 ((wrap64 ((wrap64 (bt a0 0)) * 256)) + (wrap64 (bt a0 1)))) - 1))] ?_; (with_reducible refine (impl_curveAt.calls (wrap64 ((wrap64 ((wrap64 ((wrap64 (bt a0 0)) * 256)) + (wrap64 (bt a0 1)))) - 1)) t347 _ A31.out).mono ?_); rintro e w' ⟨rfl, ⟨nd, rfl⟩⟩; refine ⟨_, rfl, ?_⟩) | ((with_reducible refine gate_callee (f := 88) rfl ?_); refine gL (some 27) Try.func88 #[.int .i64 t347] ?_; (with_reducible refine (impl_FpRoot.calls k t347 t348 t349 _ A32.out).mono ?_); rintro e w98 ⟨rfl, hb⟩; refine ⟨_, rfl, ?_⟩; replace BK344 := bB BK344 hb; replace BK345 := bB BK345 hb; replace HB := bS HB hb; (try clear hb); obtain ⟨hcz99_0, hcz99_1, hcz99_2, hfz99_0, hfz99_1, hfz99_2⟩ := bK3 (w := w98) BK345))
        obtain ⟨w100, hW_⟩ : ∃ W_ : World, W_ = (w98.setCell ⟨gb345, 1, none⟩ (.int .i64 t348)) := ⟨_, rfl⟩
        replace BK344 := bW hW_ BK344
        replace BK345 := bX hW_ 25 #[.int .i64 (wrap64 ((wrap64 ((wrap64 ((wrap64 (bt a0 0)) * 256)) + (wrap64 (bt a0 1)))) - 1)), .int .i64 t348, .bool false] BK345
        replace HB := zW hW_ HB
        rw [← hW_]
        clear hW_
        replace BK344 := Aside0.mk (blk_drew BK344.out)
        replace BK345 := Aside0.mk (blk_drew BK345.out)
        replace HB := Aside0.mk (below_drew1 HB.out)
        have p34 : 0 ≤ (2 : Int) := (by omega)
        have q34 : 2 < a0.size := (by have : (2 : Int) < (a0.size : Int) := of_decide_eq_true (by first | (with_reducible assumption) | assumption); omega)
        have hx34 : ∀ h : 2 < a0.size, ((a0[2]'h).toNat : Int) = bt a0 2 := bt_at a0 2
        clear p34
        have qi34 : (2 < (a0.size : Int)) = True := eq_true (of_decide_eq_true (by first | (with_reducible assumption) | assumption))
        replace q34 := eq_true q34
        refine start_ (n := 7) (S := fun w' => w'.cell? ⟨gb345, 0, none⟩ = some (.int .i64 (wrap64 ((wrap64 ((wrap64 ((wrap64 (bt a0 0)) * 256)) + (wrap64 (bt a0 1)))) - 1))) ∧ w'.cell? ⟨gb345, 1, none⟩ = some (.int .i64 t348) ∧ w'.cell? ⟨gb345, 2, none⟩ = some (.bool false)) (ds := []) #[false, false, false, false, false, false, false] (by kernel_rfl) rfl rfl (bT3 BK345) (fun hHeld => ?_)
        generalize w100.drew = w101 at BK344 BK345 HB hHeld ⊢
        refine pure_ (i := 0) (N := some 31) (v := ?_) (a' := ?_) #[true, false, false, false, false, false, false] rfl rfl (by kernel_rfl) (fun _ _ _ h => h) (Or.inl ⟨by rfl, ?_⟩) ?_ ?_
        rotate_left
        ·intro w'
         go_simp
         with_reducible rfl
        rotate_left
        ·simp only [Act.put, List.setIfInBounds_toArray, List.set_cons_zero, List.set_cons_succ, i64_w, i32_w]
         rfl
        refine pure_ (i := 3) (N := some 34) (v := ?_) (a' := ?_) #[true, false, false, true, false, false, false] rfl rfl (by kernel_rfl) (fun _ _ _ h => h) (Or.inl ⟨by rfl, ?_⟩) ?_ ?_
        rotate_left
        ·intro w'
         go_simp
         with_reducible rfl
        rotate_left
        ·simp only [Act.put, List.setIfInBounds_toArray, List.set_cons_zero, List.set_cons_succ, i64_w, i32_w]
         rfl
        refine take_ (i := 1) (N := some 32) (v := ?_) (a' := ?_) #[true, true, false, true, false, false, false] rfl rfl (by kernel_rfl) (fun _ _ _ h => h) (Or.inl ⟨by rfl, ?_⟩) hHeld ?_ ?_
        rotate_left
        ·rintro w' ⟨s0, s1, s2⟩
         go_simp
         with_reducible rfl
        rotate_left
        ·simp only [Act.put, List.setIfInBounds_toArray, List.set_cons_zero, List.set_cons_succ, i64_w, i32_w]
         rfl
        refine pure_ (i := 2) (N := some 33) (v := ?_) (a' := ?_) #[true, true, true, true, false, false, false] rfl rfl (by kernel_rfl) (fun _ _ _ h => h) (Or.inl ⟨by rfl, ?_⟩) ?_ ?_
        rotate_left
        ·intro w'
         go_simp
         with_reducible rfl
        rotate_left
        ·simp only [Act.put, List.setIfInBounds_toArray, List.set_cons_zero, List.set_cons_succ, i64_w, i32_w]
         rfl
        refine take_ (i := 4) (N := some 35) (v := ?_) (a' := ?_) #[true, true, true, true, true, false, false] rfl rfl (by kernel_rfl) (fun _ _ _ h => h) (Or.inl ⟨by rfl, ?_⟩) hHeld ?_ ?_
        rotate_left
        ·rintro w' ⟨s0, s1, s2⟩
         go_simp
         with_reducible rfl
        rotate_left
        ·simp only [Act.put, List.setIfInBounds_toArray, List.set_cons_zero, List.set_cons_succ, i64_w, i32_w]
         rfl
        refine pure_ (i := 5) (N := some 36) (v := ?_) (a' := ?_) #[true, true, true, true, true, true, false] rfl rfl (by kernel_rfl) (fun _ _ _ h => h) (Or.inl ⟨by rfl, ?_⟩) ?_ ?_
        rotate_left
        ·intro w'
         go_simp
         with_reducible rfl
        rotate_left
        ·simp only [Act.put, List.setIfInBounds_toArray, List.set_cons_zero, List.set_cons_succ, i64_w, i32_w]
         rfl
        refine pure_ (i := 6) (N := some 37) (v := ?_) (a' := ?_) #[true, true, true, true, true, true, true] rfl rfl (by kernel_rfl) (fun _ _ _ h => h) (Or.inl ⟨by rfl, ?_⟩) ?_ ?_
        rotate_left
        ·intro w'
         go_simp
         with_reducible rfl
        rotate_left
        ·simp only [Act.put, List.setIfInBounds_toArray, List.set_cons_zero, List.set_cons_succ, i64_w, i32_w]
         rfl
        refine done_ (by kernel_rfl) ?_
        obtain ⟨hcz102_0, hcz102_1, hcz102_2, hfz102_0, hfz102_1, hfz102_2⟩ := bK3 (w := w101) BK345
        try go_wp2_with (first | ((with_reducible refine gate_callee (f := 30) rfl ?_); refine gL (some 39) Try.func30 #[.agg #[.int .i64 (wrap64 ((wrap64 ((wrap64 ((wrap64 (bt a0 0)) * 256)) + (wrap64 (bt a0 1)))) - 1)), .int .i64 t348, .bool false]] ?_; (with_reducible refine (impl_PointNeg.calls (wrap64 ((wrap64 ((wrap64 ((wrap64 (bt a0 0)) * 256)) + (wrap64 (bt a0 1)))) - 1)) t348 false t351 t352 t353 _ A69.out).mono ?_); rintro e w103 ⟨rfl, hb⟩; refine ⟨_, rfl, ?_⟩; replace BK344 := bB BK344 hb; replace BK345 := bB BK345 hb; replace HB := bS HB hb; (try clear hb); obtain ⟨hcz104_0, hcz104_1, hcz104_2, hfz104_0, hfz104_1, hfz104_2⟩ := bK3 (w := w103) BK345) | ((with_reducible refine gate_callee (f := 43) rfl ?_); refine gL (some 41) Try.func43 #[.agg #[.int .i64 t351, .int .i64 t352, .bool t353]] ?_; (with_reducible refine (impl_PointText.calls t351 t352 t353 t354 _ A70.out).mono ?_); rintro e w105 ⟨rfl, hb⟩; refine ⟨_, rfl, ?_⟩; replace BK344 := bB BK344 hb; replace BK345 := bV 25 #[.int .i64 t351, .int .i64 t352, .bool t353] BK345 hb; replace HB := bS HB hb; (try clear hb); obtain ⟨hcz106_0, hcz106_1, hcz106_2, hfz106_0, hfz106_1, hfz106_2⟩ := bK3 (w := w105) BK344))
        refine bodyPost_ret (results_ct rfl _ _ gb344 25 #[.int .i64 0, .int .i64 0, .bool false] (0, 0) _ rfl (bU BK344) Try.underlying25 rfl (by kernel_rfl)) rfl ?_
        exact ⟨rR, bZ HB⟩
     ·rw [if_neg c33] at H
      exact absurd H (by simp)
   ·rw [if_neg c5] at H
    exact absurd H (by simp)
  ·rw [if_neg c3] at H
   exact absurd H (by simp)
 ·rw [if_neg c2] at H
  have c2b0 : ((a0.size : Int) == 3) = false := beq_eq_false_iff_ne.mpr c2
  have c2b1 : ((a0.size : Int) != 3) = true := bne_iff_ne.mpr c2
  simp only [Option.some.injEq, Prod.mk.injEq] at H
  obtain ⟨rfl, rfl, rfl, rfl⟩ := H
  go_enter Try.func44, Try.ntmps44
  go_wp2_with (first | ((with_reducible refine gate_dst (N := 2) rfl ?_); refine bE 2 #[.int .i64 0, .int .i64 0, .bool false] 25 ?_; intro gb344 hg w107 hbox hb; have BK344 := Aside0.mk (hbox); have GW344 := bG HB hg; have GE344 := bG HB hg; replace HB := bS HB hb; clear hb hbox hg; obtain ⟨hcz108_0, hcz108_1, hcz108_2, hfz108_0, hfz108_1, hfz108_2⟩ := bK3 (w := w107) BK344))
  refine bodyPost_ret (results_ct rfl _ _ gb344 25 #[.int .i64 0, .int .i64 0, .bool false] (0, 0) _ rfl (bU BK344) Try.underlying25 rfl (by kernel_rfl)) rfl ?_
  exact ⟨rR, bZ HB⟩
/-! ### spec_PointText: function 89 -/
def spec_PointText.f (a0_0 : Int) (a0_1 : Int) (a0_2 : Bool) : Option (ByteArray) := (spec_PointOk.f a0_0 a0_1 a0_2).bind fun t356 => (if t356 = true then (if a0_2 = true then (some (⟨#[0, 0, 0]⟩ : ByteArray)) else (some (strOfNums (([((wrap64 (a0_0 + 1)) / 256) % 256, (wrap64 (a0_0 + 1)) % 256, (Int.tmod a0_1 2) % 256] : List Int))))) else (some (⟨#[]⟩ : ByteArray)))
set_option maxHeartbeats 8000000 in
set_option maxRecDepth 100000 in
theorem spec_PointText.calls (a0_0 : Int) (a0_1 : Int) (a0_2 : Bool) (r : ByteArray) (w : World) (h : spec_PointText.f a0_0 a0_1 a0_2 = some r) :
  Calls Try.prog 89 #[.agg #[.int .i64 a0_0, .int .i64 a0_1, .bool a0_2]] w fun e w' => e = .returned (.string r) ∧ Below w.heap.size w w' := by
 have hu25 := Try.underlying25
 have HB := Aside0.mk (Below.refl w.heap.size w)
 have H : ((spec_PointOk.f a0_0 a0_1 a0_2).bind fun t356 => (if t356 = true then (if a0_2 = true then (some (⟨#[0, 0, 0]⟩ : ByteArray)) else (some (strOfNums (([((wrap64 (a0_0 + 1)) / 256) % 256, (wrap64 (a0_0 + 1)) % 256, (Int.tmod a0_1 2) % 256] : List Int))))) else (some (⟨#[]⟩ : ByteArray)))) = some r := h
 clear h
 replace H := Option.bind_eq_some_iff.mp H
 obtain ⟨t356, A20, H⟩ := H
 have A2 := Aside0.mk A20
 clear A20
 by_cases c3 : t356 = true
 ·subst c3
  rw [if_pos rfl] at H
  by_cases c4 : a0_2 = true
  ·subst c4
   rw [if_pos rfl] at H
   obtain rfl := Option.some.inj H
   go_enter Try.func89, Try.ntmps89
   go_wp2_with (first | ((with_reducible refine gate_dst (N := 1) rfl ?_); refine bE 1 #[.int .i64 a0_0, .int .i64 a0_1, .bool true] 25 ?_; intro gb355 hg w5 hbox hb; have BK355 := Aside0.mk (hbox); have GW355 := bG HB hg; have GE355 := bG HB hg; replace HB := bS HB hb; clear hb hbox hg; obtain ⟨hcz6_0, hcz6_1, hcz6_2, hfz6_0, hfz6_1, hfz6_2⟩ := bK3 (w := w5) BK355) | ((with_reducible refine gate_callee (f := 55) rfl ?_); refine gL (some 5) Try.func55 #[.agg #[.int .i64 a0_0, .int .i64 a0_1, .bool true]] ?_; (with_reducible refine (spec_PointOk.calls a0_0 a0_1 true true _ A2.out).mono ?_); rintro e w7 ⟨rfl, hb⟩; refine ⟨_, rfl, ?_⟩; replace BK355 := bB BK355 hb; replace HB := bS HB hb; (try clear hb); obtain ⟨hcz8_0, hcz8_1, hcz8_2, hfz8_0, hfz8_1, hfz8_2⟩ := bK3 (w := w7) BK355))
   go_ret
   exact ⟨rR, bZ HB⟩
  ·replace c4 := Bool.eq_false_iff.mpr c4
   subst c4
   rw [if_neg (show ¬ (false = true) by decide)] at H
   obtain ⟨y357, hy357⟩ : ∃ y_ : List Int, y_ = (([((wrap64 (a0_0 + 1)) / 256) % 256, (wrap64 (a0_0 + 1)) % 256, (Int.tmod a0_1 2) % 256] : List Int)) := ⟨_, rfl⟩
   replace H : (some (strOfNums y357)) = some r := by first | (rw [hy357]; with_reducible exact H) | (have H2_ := (Option.bind_some _ _).symm.trans H; rw [hy357]; with_reducible exact H2_) | (have H2_ := (Option.bind_some _ _).symm.trans H; with_reducible exact H2_) | with_reducible exact H | (rw [hy357]; exact H) | exact H
   have Ny357 := Aside0.mk hy357
   clear hy357
   obtain rfl := Option.some.inj H
   go_enter Try.func89, Try.ntmps89
   go_wp2_with (first | ((with_reducible refine gate_dst (N := 1) rfl ?_); refine bE 1 #[.int .i64 a0_0, .int .i64 a0_1, .bool false] 25 ?_; intro gb355 hg w9 hbox hb; have BK355 := Aside0.mk (hbox); have GW355 := bG HB hg; have GE355 := bG HB hg; replace HB := bS HB hb; clear hb hbox hg; obtain ⟨hcz10_0, hcz10_1, hcz10_2, hfz10_0, hfz10_1, hfz10_2⟩ := bK3 (w := w9) BK355) | ((with_reducible refine gate_callee (f := 55) rfl ?_); refine gL (some 5) Try.func55 #[.agg #[.int .i64 a0_0, .int .i64 a0_1, .bool false]] ?_; (with_reducible refine (spec_PointOk.calls a0_0 a0_1 false true _ A2.out).mono ?_); rintro e w11 ⟨rfl, hb⟩; refine ⟨_, rfl, ?_⟩; replace BK355 := bB BK355 hb; replace HB := bS HB hb; (try clear hb); obtain ⟨hcz12_0, hcz12_1, hcz12_2, hfz12_0, hfz12_1, hfz12_2⟩ := bK3 (w := w11) BK355) | ((with_reducible refine gate_dst (N := 21) rfl ?_); refine Kd.R_lit (Kd.int .u8) _ 5 ?hg (N := 21) ?hd (xs := ([((wrap64 (a0_0 + 1)) / 256) % 256, (wrap64 (a0_0 + 1)) % 256, (Int.tmod a0_1 2) % 256] : List Int)) (inner := [.int .u8 (((wrap64 (a0_0 + 1)) / 256) % 256), .int .u8 ((wrap64 (a0_0 + 1)) % 256), .int .u8 ((Int.tmod a0_1 2) % 256)]) (ok := fun _ => True) (okp := fun _ => True) ?hr ?hp (fun _ hk => hk) trivial (Below.refl _ _) (Nat.le_refl _) (by simp) ?_; (case hd => rfl); (case hg => rfl); (case hr => first | (go_simp; done) | (go_simp; rfl)); (case hp => exact (Reps.one (show Kd.M (Kd.int .u8) _ _ _ (((wrap64 (a0_0 + 1)) / 256) % 256) [.int .u8 (((wrap64 (a0_0 + 1)) / 256) % 256)] from rfl) (Reps.one (show Kd.M (Kd.int .u8) _ _ _ ((wrap64 (a0_0 + 1)) % 256) [.int .u8 ((wrap64 (a0_0 + 1)) % 256)] from rfl) (Reps.one (show Kd.M (Kd.int .u8) _ _ _ ((Int.tmod a0_1 2) % 256) [.int .u8 ((Int.tmod a0_1 2) % 256)] from rfl) (Reps.none _ _))))); intro v358 w13 ho14 hb hg_ hnew_; clear hg_ hnew_; (first | rw [← Ny357.out] at ho14 | (simp only [Int.reduceToNat] at ho14; rw [← Ny357.out] at ho14)); have HO359 := Aside0.mk (Kd.R_lower ho14 (below_size (bZ HB))); replace BK355 := bB BK355 hb; replace HB := bS HB hb; clear hb ho14; have hcv15 := own_string (P := Try.prog) Try.underlying22 Try.underlying5 Try.underlying9 (Kd.own_of_R HO359.out)))
   go_ret
   exact ⟨rR, bZ HB⟩
 ·replace c3 := Bool.eq_false_iff.mpr c3
  subst c3
  rw [if_neg (show ¬ (false = true) by decide)] at H
  obtain rfl := Option.some.inj H
  go_enter Try.func89, Try.ntmps89
  go_wp2_with (first | ((with_reducible refine gate_dst (N := 1) rfl ?_); refine bE 1 #[.int .i64 a0_0, .int .i64 a0_1, .bool a0_2] 25 ?_; intro gb355 hg w16 hbox hb; have BK355 := Aside0.mk (hbox); have GW355 := bG HB hg; have GE355 := bG HB hg; replace HB := bS HB hb; clear hb hbox hg; obtain ⟨hcz17_0, hcz17_1, hcz17_2, hfz17_0, hfz17_1, hfz17_2⟩ := bK3 (w := w16) BK355) | ((with_reducible refine gate_callee (f := 55) rfl ?_); refine gL (some 5) Try.func55 #[.agg #[.int .i64 a0_0, .int .i64 a0_1, .bool a0_2]] ?_; (with_reducible refine (spec_PointOk.calls a0_0 a0_1 a0_2 false _ A2.out).mono ?_); rintro e w18 ⟨rfl, hb⟩; refine ⟨_, rfl, ?_⟩; replace BK355 := bB BK355 hb; replace HB := bS HB hb; (try clear hb)))
  go_ret
  exact ⟨rR, bZ HB⟩
/-! ### spec_l01PickInt: function 97 -/
def spec_l01PickInt.f (s0_0 : List Int) (s0_1 : Int) (s0_2 : Int) (l1 : List Int) : Option (Int × Int × Int) := (spec_l01Below.f s0_0 s0_1 s0_2 (l1.length : Int)).bind fun bt360 => (if 0 ≤ bt360.1 then (if bt360.1 < (l1.length : Int) then (some (rd l1 bt360.1, bt360.2.1, bt360.2.2)) else (none)) else (none))
set_option maxHeartbeats 8000000 in
set_option maxRecDepth 100000 in
theorem spec_l01PickInt.calls (g : Nat) (s0_0 : List Int) (s0_1 : Int) (s0_2 : Int) (A1 : Option Addr) (c1 : Nat) (l1 : List Int) (r1 : Int) (r2 : Int) (r3 : Int) (w0 w : World) (hI : IsS89 w0 w g s0_0 s0_1 s0_2) (hB : Below w0.heap.size w0 w) (hr1 : Kd.C (Kd.int .i64) w A1 l1.length l1) (hc1 : l1.length ≤ c1) (hf1 : ∀ ad, A1 = some ad → 0 < l1.length → ad.block ≠ g) (h : spec_l01PickInt.f s0_0 s0_1 s0_2 l1 = some (r1, r2, r3)) :
  Calls Try.prog 97 #[.pointer (some ⟨g, 0, none⟩), .slice A1 l1.length c1] w fun e w' => e = .returned (.int .i64 r1) ∧ IsS89 w0 w' g s0_0 r2 r3 ∧ Below w0.heap.size w0 w' ∧ KeepBut w w' g none := by
 have HR1 := Aside0.mk hr1
 have HC1 := Aside0.mk hc1
 clear hr1 hc1
 have HI0 := Aside0.mk hI
 have HK := Aside0.mk (KeepBut.refl w g none)
 have HL := Aside0.mk hB.size
 clear hI
 have HW0 := Aside0.mk hB.size
 have HB := Aside0.mk hB
 clear hB
 have H : ((spec_l01Below.f s0_0 s0_1 s0_2 (l1.length : Int)).bind fun bt360 => (if 0 ≤ bt360.1 then (if bt360.1 < (l1.length : Int) then (some (rd l1 bt360.1, bt360.2.1, bt360.2.2)) else (none)) else (none))) = some (r1, r2, r3) := h
 clear h
 replace H := Option.bind_eq_some_iff.mp H
 obtain ⟨⟨t360, t361, t362⟩, A30, H⟩ := H
 have A3 := Aside0.mk A30
 clear A30
 by_cases c4 : 0 ≤ t360
 ·rw [if_pos c4] at H
  have c4b0 : decide (0 ≤ t360) = true := decide_eq_true c4
  clear c4
  by_cases c5 : t360 < (l1.length : Int)
  ·rw [if_pos c5] at H
   have c5b0 : decide (t360 < (l1.length : Int)) = true := decide_eq_true c5
   clear c5
   simp only [Option.some.injEq, Prod.mk.injEq] at H
   obtain ⟨rfl, rfl, rfl⟩ := H
   go_enter Try.func97, Try.ntmps97
   go_wp2_with (first | ((with_reducible refine gate_callee (f := 62) rfl ?_); refine gL (some 9) Try.func62 #[.pointer (some ⟨g, 0, none⟩), .int .i64 (l1.length : Int)] ?_; (with_reducible refine (spec_l01Below.calls g s0_0 s0_1 s0_2 (l1.length : Int) t360 t361 t362 w0 _ ?side1 ?side2 A3.out).mono ?_); (case side1 => repeat (first | (with_reducible first | exact HI0.out | apply IsS89.alloc | apply IsS89.drewN | apply IsS89.drew | apply IsS89.set_1 | apply IsS89.set_2) | exact HI0.out)); (case side2 => repeat (first | (with_reducible first | exact HB.out | apply below_alloc | apply pw_below_drewN | apply below_drew1 | refine below_set ?_ (IsS89.ge HI0.out)) | exact HB.out)); rintro e w6 ⟨rfl, hi, hb, hk⟩; refine ⟨_, rfl, ?_⟩; replace HK := Aside0.mk (KeepBut.trans (by repeat (first | (with_reducible first | exact HK.out | apply KeepBut.set_ | apply keep_drewN | apply keep_drew | apply keep_alloc) | exact HK.out)) hk (.inl rfl)); replace HB := Aside0.mk (hb); replace HI0 := Aside0.mk (hi); (try clear hb); have p363 : 0 ≤ (t360 : Int) := of_decide_eq_true (by first | (with_reducible assumption) | assumption); have q363 : t360 < (l1.length : Int) := of_decide_eq_true (by first | (with_reducible assumption) | assumption); obtain ⟨ad363, e363, hx363_0⟩ := Kd.at_int HR1.out t360 p363 q363; cases e363; replace hx363_0 := keep_cell HK.out hx363_0 (by first | (rw [add_block]; exact hf1 _ rfl (by omega)) | exact hf1 _ rfl (by omega) | exact hf1 ad363 rfl (by omega)); replace p363 := eq_true p363; replace q363 := eq_true q363))
   go_ret
   exact ⟨by first | rfl | (simp [errW_none, errW_some] <;> rfl) | (simp [*, errW_none, errW_some] <;> rfl), by repeat (first | (with_reducible first | exact HI0.out | apply IsS89.alloc | apply IsS89.drewN | apply IsS89.drew | apply IsS89.set_1 | apply IsS89.set_2) | exact HI0.out), by repeat (first | (with_reducible first | exact HB.out | apply below_alloc | apply pw_below_drewN | apply below_drew1 | refine below_set ?_ (IsS89.ge HI0.out)) | exact HB.out), by repeat (first | (with_reducible first | exact HK.out | apply KeepBut.set_ | apply keep_drewN | apply keep_drew | apply keep_alloc) | exact HK.out)⟩
  ·rw [if_neg c5] at H
   exact absurd H (by simp)
 ·rw [if_neg c4] at H
  exact absurd H (by simp)
/-! ### spec_l07Group: function 60 -/
def spec_l07Group.f (k : Nat) (s0_0 : List Int) (s0_1 : Int) (s0_2 : Int) : Option (Int × Int × Bool × Int × Int) := (spec_l01Below.f s0_0 s0_1 s0_2 256).bind fun bt365 => ((spec_l01PickInt.f s0_0 bt365.2.1 bt365.2.2 (([1, 2, 3, 0, 500, 1008, bt365.1] : List Int))).bind fun bt371 => ((spec_Base.f).bind fun bt374 => ((spec_PointTimes.f k bt371.1 bt374.1 bt374.2.1 bt374.2.2).bind fun bt377 => (some (bt377.1, bt377.2.1, bt377.2.2, bt371.2.1, bt371.2.2)))))
theorem spec_l07Group.mono : ∀ a0 a1 a2 k, LeO (spec_l07Group.f k a0 a1 a2) (spec_l07Group.f (k + 1) a0 a1 a2) := by
 intro a0 a1 a2 k
 unfold spec_l07Group.f
 repeat' first
   | (with_reducible exact spec_PointTimes.mono _ _ _ _ _)
   | (with_reducible exact LeO.refl _)
   | (with_reducible exact LeO.none _)
   | (with_reducible refine LeO.ite ?_ ?_)
   | (with_reducible refine LeO.bind ?_ (fun _ => ?_))
   | exact spec_PointTimes.mono _ _ _ _ _
   | exact LeO.none _
   | refine LeO.ite ?_ ?_
   | refine LeO.bind ?_ (fun _ => ?_)
set_option maxHeartbeats 8000000 in
set_option maxRecDepth 100000 in
theorem spec_l07Group.calls (k : Nat) (g : Nat) (s0_0 : List Int) (s0_1 : Int) (s0_2 : Int) (r1 : Int) (r2 : Int) (r3 : Bool) (r4 : Int) (r5 : Int) (w0 w : World) (hI : IsS89 w0 w g s0_0 s0_1 s0_2) (hB : Below w0.heap.size w0 w) (h : spec_l07Group.f k s0_0 s0_1 s0_2 = some (r1, r2, r3, r4, r5)) :
  Calls Try.prog 60 #[.pointer (some ⟨g, 0, none⟩)] w fun e w' => e = .returned (.agg #[.int .i64 r1, .int .i64 r2, .bool r3]) ∧ IsS89 w0 w' g s0_0 r4 r5 ∧ Below w0.heap.size w0 w' ∧ KeepBut w w' g none := by
 have hu25 := Try.underlying25
 have HI0 := Aside0.mk hI
 have HK := Aside0.mk (KeepBut.refl w g none)
 have HL := Aside0.mk hB.size
 clear hI
 have HW0 := Aside0.mk hB.size
 have HB := Aside0.mk hB
 clear hB
 have H : ((spec_l01Below.f s0_0 s0_1 s0_2 256).bind fun bt365 => ((spec_l01PickInt.f s0_0 bt365.2.1 bt365.2.2 (([1, 2, 3, 0, 500, 1008, bt365.1] : List Int))).bind fun bt371 => ((spec_Base.f).bind fun bt374 => ((spec_PointTimes.f k bt371.1 bt374.1 bt374.2.1 bt374.2.2).bind fun bt377 => (some (bt377.1, bt377.2.1, bt377.2.2, bt371.2.1, bt371.2.2)))))) = some (r1, r2, r3, r4, r5) := h
 clear h
 replace H := Option.bind_eq_some_iff.mp H
 obtain ⟨⟨t365, t366, t367⟩, A20, H⟩ := H
 have A2 := Aside0.mk A20
 clear A20
 obtain ⟨y368, hy368⟩ : ∃ y_ : List Int, y_ = (([1, 2, 3, 0, 500, 1008, t365] : List Int)) := ⟨_, rfl⟩
 replace H : ((spec_l01PickInt.f s0_0 t366 t367 y368).bind fun bt371 => ((spec_Base.f).bind fun bt374 => ((spec_PointTimes.f k bt371.1 bt374.1 bt374.2.1 bt374.2.2).bind fun bt377 => (some (bt377.1, bt377.2.1, bt377.2.2, bt371.2.1, bt371.2.2))))) = some (r1, r2, r3, r4, r5) := by first | (rw [hy368]; with_reducible exact H) | (have H2_ := (Option.bind_some _ _).symm.trans H; rw [hy368]; with_reducible exact H2_) | (have H2_ := (Option.bind_some _ _).symm.trans H; with_reducible exact H2_) | with_reducible exact H | (rw [hy368]; exact H) | exact H
 have Ny368 := Aside0.mk hy368
 clear hy368
 replace H := Option.bind_eq_some_iff.mp H
 obtain ⟨⟨t371, t372, t373⟩, A30, H⟩ := H
 have A3 := Aside0.mk A30
 clear A30
 replace H := Option.bind_eq_some_iff.mp H
 obtain ⟨⟨t374, t375, t376⟩, A40, H⟩ := H
 have A4 := Aside0.mk A40
 clear A40
 replace H := Option.bind_eq_some_iff.mp H
 obtain ⟨⟨t377, t378, t379⟩, A50, H⟩ := H
 have A5 := Aside0.mk A50
 clear A50
 simp only [Option.some.injEq, Prod.mk.injEq] at H
 obtain ⟨rfl, rfl, rfl, rfl, rfl⟩ := H
 go_enter Try.func60, Try.ntmps60
 go_wp2_with (first | ((with_reducible refine gate_dst (N := 2) rfl ?_); refine bE 2 #[.int .i64 0, .int .i64 0, .bool false] 25 ?_; intro gb364 hg w6 hbox hb; replace HB := Aside0.mk (below_step (by repeat (first | (with_reducible first | exact HB.out | apply below_alloc | apply pw_below_drewN | apply below_drew1 | refine below_set ?_ (IsS89.ge HI0.out)) | exact HB.out)) hb); have BK364 := Aside0.mk (hbox); have GW364 := Aside0.mk ((by rw [hg]; exact (keep_size (w := w) (g := g) (row := none) (by repeat (first | (with_reducible first | exact HK.out | apply KeepBut.set_ | apply keep_drewN | apply keep_drew | apply keep_alloc) | exact HK.out))) : w.heap.size ≤ gb364)); have GE364 := Aside0.mk ((Nat.le_trans HW0.out (by rw [hg]; exact (keep_size (w := w) (g := g) (row := none) (by repeat (first | (with_reducible first | exact HK.out | apply KeepBut.set_ | apply keep_drewN | apply keep_drew | apply keep_alloc) | exact HK.out))) : w.heap.size ≤ gb364) : w0.heap.size ≤ gb364)); replace HK := Aside0.mk (KeepBut.trans (by repeat (first | (with_reducible first | exact HK.out | apply KeepBut.set_ | apply keep_drewN | apply keep_drew | apply keep_alloc) | exact HK.out)) (KeepBut.of_below hb g none) (.inl rfl)); have NB0_364 := Aside0.mk ((by rw [hg]; exact Nat.ne_of_lt (IsS89.lt (show IsS89 w0 _ g s0_0 s0_1 s0_2 from by repeat (first | (with_reducible first | exact HI0.out | apply IsS89.alloc | apply IsS89.drewN | apply IsS89.drew | apply IsS89.set_1 | apply IsS89.set_2) | exact HI0.out))) : g ≠ gb364)); have NB364_0 := Aside0.mk ((by rw [hg]; exact Nat.ne_of_gt (IsS89.lt (show IsS89 w0 _ g s0_0 s0_1 s0_2 from by repeat (first | (with_reducible first | exact HI0.out | apply IsS89.alloc | apply IsS89.drewN | apply IsS89.drew | apply IsS89.set_1 | apply IsS89.set_2) | exact HI0.out))) : gb364 ≠ g)); replace HI0 := Aside0.mk (IsS89.below (by repeat (first | (with_reducible first | exact HI0.out | apply IsS89.alloc | apply IsS89.drewN | apply IsS89.drew | apply IsS89.set_1 | apply IsS89.set_2) | exact HI0.out)) hb); clear hb hbox hg) | ((with_reducible refine gate_callee (f := 62) rfl ?_); refine gL (some 5) Try.func62 #[.pointer (some ⟨g, 0, none⟩), .int .i64 256] ?_; (with_reducible refine (spec_l01Below.calls g s0_0 s0_1 s0_2 256 t365 t366 t367 w0 _ ?side1 ?side2 A2.out).mono ?_); (case side1 => repeat (first | (with_reducible first | exact HI0.out | apply IsS89.alloc | apply IsS89.drewN | apply IsS89.drew | apply IsS89.set_1 | apply IsS89.set_2 | refine IsS89.far ?_ NB0_364.out _) | exact HI0.out)); (case side2 => repeat (first | (with_reducible first | exact HB.out | apply below_alloc | apply pw_below_drewN | apply below_drew1 | refine below_set ?_ (IsS89.ge HI0.out) | refine below_set ?_ GE364.out) | exact HB.out)); rintro e w7 ⟨rfl, hi, hb, hk⟩; refine ⟨_, rfl, ?_⟩; replace BK364 := Aside0.mk (KeepBut.blk hk (g' := gb364) (o := .cells #[.int .i64 0, .int .i64 0, .bool false] 25 (0, 0)) (bP BK364) NB364_0.out (by simp)); replace HK := Aside0.mk (KeepBut.trans (by repeat (first | (with_reducible first | exact HK.out | apply KeepBut.set_ | apply keep_drewN | apply keep_drew | apply keep_alloc | refine keep_far ?_ GW364.out _) | exact HK.out)) hk (.inl rfl)); replace HB := Aside0.mk (hb); replace HI0 := Aside0.mk (hi); (try clear hb)) | ((with_reducible refine gate_dst (N := 6) rfl ?_); refine Kd.R_lit (Kd.int .i64) _ 3 ?hg (N := 6) ?hd (xs := ([1, 2, 3, 0, 500, 1008, t365] : List Int)) (inner := [.int .i64 1, .int .i64 2, .int .i64 3, .int .i64 0, .int .i64 500, .int .i64 1008, .int .i64 t365]) (ok := fun _ => True) (okp := fun _ => True) ?hr ?hp (fun _ hk => hk) trivial (Below.refl _ _) (Nat.le_refl _) (by simp) ?_; (case hd => rfl); (case hg => rfl); (case hr => first | (go_simp; done) | (go_simp; rfl)); (case hp => exact (Reps.one (show Kd.M (Kd.int .i64) _ _ _ 1 [.int .i64 1] from rfl) (Reps.one (show Kd.M (Kd.int .i64) _ _ _ 2 [.int .i64 2] from rfl) (Reps.one (show Kd.M (Kd.int .i64) _ _ _ 3 [.int .i64 3] from rfl) (Reps.one (show Kd.M (Kd.int .i64) _ _ _ 0 [.int .i64 0] from rfl) (Reps.one (show Kd.M (Kd.int .i64) _ _ _ 500 [.int .i64 500] from rfl) (Reps.one (show Kd.M (Kd.int .i64) _ _ _ 1008 [.int .i64 1008] from rfl) (Reps.one (show Kd.M (Kd.int .i64) _ _ _ t365 [.int .i64 t365] from rfl) (Reps.none _ _))))))))); intro v369 w8 ho9 hb hg_ hnew_; clear hg_ hnew_; (first | rw [← Ny368.out] at ho9 | (simp only [Int.reduceToNat] at ho9; rw [← Ny368.out] at ho9)); have HO370 := Aside0.mk (Kd.R_lower ho9 (keep_size (w := w) (g := g) (row := none) (by repeat (first | (with_reducible first | exact HK.out | apply KeepBut.set_ | apply keep_drewN | apply keep_drew | apply keep_alloc | refine keep_far ?_ GW364.out _) | exact HK.out)))); replace BK364 := bB BK364 hb; replace HK := Aside0.mk (KeepBut.trans (by repeat (first | (with_reducible first | exact HK.out | apply KeepBut.set_ | apply keep_drewN | apply keep_drew | apply keep_alloc | refine keep_far ?_ GW364.out _) | exact HK.out)) (KeepBut.of_below hb g none) (.inl rfl)); replace HB := Aside0.mk (below_step (by repeat (first | (with_reducible first | exact HB.out | apply below_alloc | apply pw_below_drewN | apply below_drew1 | refine below_set ?_ (IsS89.ge HI0.out) | refine below_set ?_ GE364.out) | exact HB.out)) hb); replace HI0 := Aside0.mk (IsS89.below (by repeat (first | (with_reducible first | exact HI0.out | apply IsS89.alloc | apply IsS89.drewN | apply IsS89.drew | apply IsS89.set_1 | apply IsS89.set_2 | refine IsS89.far ?_ NB0_364.out _) | exact HI0.out)) hb); clear hb ho9; obtain ⟨Ao10, co10, eo10⟩ := Kd.R_slice HO370.out; subst eo10) | ((with_reducible refine gate_callee (f := 97) rfl ?_); refine gL (some 7) Try.func97 #[.pointer (some ⟨g, 0, none⟩), .slice Ao10 y368.length co10] ?_; (with_reducible refine (spec_l01PickInt.calls g s0_0 t366 t367 _ _ y368 t371 t372 t373 w0 _ ?side1 ?side2 ?side3 ?side4 ?side5 A3.out).mono ?_); (case side1 => repeat (first | (with_reducible first | exact HI0.out | apply IsS89.alloc | apply IsS89.drewN | apply IsS89.drew | apply IsS89.set_1 | apply IsS89.set_2 | refine IsS89.far ?_ NB0_364.out _) | exact HI0.out)); (case side2 => repeat (first | (with_reducible first | exact HB.out | apply below_alloc | apply pw_below_drewN | apply below_drew1 | refine below_set ?_ (IsS89.ge HI0.out) | refine below_set ?_ GE364.out) | exact HB.out)); (case side3 => exact cP ((Kd.R_reads' HO370.out).2.2)); (case side4 => exact (Kd.R_reads' HO370.out).2.1); (case side5 => exact far_slice (IsS89.own_ne HI0.out HO370.out (by decide))); rintro e w11 ⟨rfl, hi, hb, hk⟩; refine ⟨_, rfl, ?_⟩; replace BK364 := Aside0.mk (KeepBut.blk hk (g' := gb364) (o := .cells #[.int .i64 0, .int .i64 0, .bool false] 25 (0, 0)) (bP BK364) NB364_0.out (by simp)); replace HO370 := Aside0.mk (Kd.R_mono (Kd.R_keep (IsS89.apart (show IsS89 w0 _ g s0_0 t366 t367 from by repeat (first | (with_reducible first | exact HI0.out | apply IsS89.alloc | apply IsS89.drewN | apply IsS89.drew | apply IsS89.set_1 | apply IsS89.set_2 | refine IsS89.far ?_ NB0_364.out _) | exact HI0.out)) (rP HO370) (by decide)) hk (fun _ h => h.2)) (fun _ h => h.1)); replace HK := Aside0.mk (KeepBut.trans (by repeat (first | (with_reducible first | exact HK.out | apply KeepBut.set_ | apply keep_drewN | apply keep_drew | apply keep_alloc | refine keep_far ?_ GW364.out _) | exact HK.out)) hk (.inl rfl)); replace HB := Aside0.mk (hb); replace HI0 := Aside0.mk (hi); (try clear hb)) | ((with_reducible refine gate_callee (f := 85) rfl ?_); refine gL (some 8) Try.func85 #[] ?_; (with_reducible refine (spec_Base.calls  t374 t375 t376 _ A4.out).mono ?_); rintro e w12 ⟨rfl, hb⟩; refine ⟨_, rfl, ?_⟩; replace HO370 := Aside0.mk (Kd.R_below (rP HO370) hb); replace BK364 := bB BK364 hb; replace HK := Aside0.mk (KeepBut.trans (by repeat (first | (with_reducible first | exact HK.out | apply KeepBut.set_ | apply keep_drewN | apply keep_drew | apply keep_alloc | refine keep_far ?_ GW364.out _) | exact HK.out)) (KeepBut.of_below hb g none) (.inl rfl)); replace HB := Aside0.mk (below_step (by repeat (first | (with_reducible first | exact HB.out | apply below_alloc | apply pw_below_drewN | apply below_drew1 | refine below_set ?_ (IsS89.ge HI0.out) | refine below_set ?_ GE364.out) | exact HB.out)) hb); replace HI0 := Aside0.mk (IsS89.below (by repeat (first | (with_reducible first | exact HI0.out | apply IsS89.alloc | apply IsS89.drewN | apply IsS89.drew | apply IsS89.set_1 | apply IsS89.set_2 | refine IsS89.far ?_ NB0_364.out _) | exact HI0.out)) hb); (try clear hb)) | ((with_reducible refine gate_callee (f := 27) rfl ?_); refine gL (some 9) Try.func27 #[.int .i64 t371, .agg #[.int .i64 t374, .int .i64 t375, .bool t376]] ?_; (with_reducible refine (spec_PointTimes.calls k t371 t374 t375 t376 t377 t378 t379 _ A5.out).mono ?_); rintro e w13 ⟨rfl, hb⟩; refine ⟨_, rfl, ?_⟩; replace HO370 := Aside0.mk (Kd.R_below (rP HO370) hb); replace BK364 := bB BK364 hb; replace HK := Aside0.mk (KeepBut.trans (by repeat (first | (with_reducible first | exact HK.out | apply KeepBut.set_ | apply keep_drewN | apply keep_drew | apply keep_alloc | refine keep_far ?_ GW364.out _) | exact HK.out)) (KeepBut.of_below hb g none) (.inl rfl)); replace HB := Aside0.mk (below_step (by repeat (first | (with_reducible first | exact HB.out | apply below_alloc | apply pw_below_drewN | apply below_drew1 | refine below_set ?_ (IsS89.ge HI0.out) | refine below_set ?_ GE364.out) | exact HB.out)) hb); replace HI0 := Aside0.mk (IsS89.below (by repeat (first | (with_reducible first | exact HI0.out | apply IsS89.alloc | apply IsS89.drewN | apply IsS89.drew | apply IsS89.set_1 | apply IsS89.set_2 | refine IsS89.far ?_ NB0_364.out _) | exact HI0.out)) hb); (try clear hb); obtain ⟨hnb14, hnc14⟩ := nB NB364_0; obtain ⟨hcz15_0, hcz15_1, hcz15_2, hfz15_0, hfz15_1, hfz15_2⟩ := bK3 (w := w13) BK364))
 refine rC gb364 25 #[.int .i64 t377, .int .i64 t378, .bool t379] (bU BK364) Try.underlying25 ?_
 exact ⟨by first | rfl | (simp [errW_none, errW_some] <;> rfl) | (simp [*, errW_none, errW_some] <;> rfl), by repeat (first | (with_reducible first | exact HI0.out | apply IsS89.alloc | apply IsS89.drewN | apply IsS89.drew | apply IsS89.set_1 | apply IsS89.set_2 | refine IsS89.far ?_ NB0_364.out _) | exact HI0.out), by repeat (first | (with_reducible first | exact HB.out | apply below_alloc | apply pw_below_drewN | apply below_drew1 | refine below_set ?_ (IsS89.ge HI0.out) | refine below_set ?_ GE364.out) | exact HB.out), by repeat (first | (with_reducible first | exact HK.out | apply KeepBut.set_ | apply keep_drewN | apply keep_drew | apply keep_alloc | refine keep_far ?_ GW364.out _) | exact HK.out)⟩
/-! ### spec_l04Num: function 108 -/
def spec_l04Num.f (s0_0 : List Int) (s0_1 : Int) (s0_2 : Int) : Option (Int × Int × Int) := (spec_l01Below.f s0_0 s0_1 s0_2 256).bind fun bt380 => ((spec_l01Below.f s0_0 bt380.2.1 bt380.2.2 256).bind fun bt383 => ((spec_l01PickInt.f s0_0 bt383.2.1 bt383.2.2 (([0, 1, 2, 3, 12106, 12107, 12108, (-1), wrap64 (5000 + bt380.1), wrap64 (bt383.1 * 47), (-9223372036854775808), 9223372036854775807] : List Int))).bind fun bt389 => (some (bt389.1, bt389.2.1, bt389.2.2))))
set_option maxHeartbeats 8000000 in
set_option maxRecDepth 100000 in
theorem spec_l04Num.calls (g : Nat) (s0_0 : List Int) (s0_1 : Int) (s0_2 : Int) (r1 : Int) (r2 : Int) (r3 : Int) (w0 w : World) (hI : IsS89 w0 w g s0_0 s0_1 s0_2) (hB : Below w0.heap.size w0 w) (h : spec_l04Num.f s0_0 s0_1 s0_2 = some (r1, r2, r3)) :
  Calls Try.prog 108 #[.pointer (some ⟨g, 0, none⟩)] w fun e w' => e = .returned (.int .i64 r1) ∧ IsS89 w0 w' g s0_0 r2 r3 ∧ Below w0.heap.size w0 w' ∧ KeepBut w w' g none := by
 have HI0 := Aside0.mk hI
 have HK := Aside0.mk (KeepBut.refl w g none)
 have HL := Aside0.mk hB.size
 clear hI
 have HW0 := Aside0.mk hB.size
 have HB := Aside0.mk hB
 clear hB
 have H : ((spec_l01Below.f s0_0 s0_1 s0_2 256).bind fun bt380 => ((spec_l01Below.f s0_0 bt380.2.1 bt380.2.2 256).bind fun bt383 => ((spec_l01PickInt.f s0_0 bt383.2.1 bt383.2.2 (([0, 1, 2, 3, 12106, 12107, 12108, (-1), wrap64 (5000 + bt380.1), wrap64 (bt383.1 * 47), (-9223372036854775808), 9223372036854775807] : List Int))).bind fun bt389 => (some (bt389.1, bt389.2.1, bt389.2.2))))) = some (r1, r2, r3) := h
 clear h
 replace H := Option.bind_eq_some_iff.mp H
 obtain ⟨⟨t380, t381, t382⟩, A20, H⟩ := H
 have A2 := Aside0.mk A20
 clear A20
 replace H := Option.bind_eq_some_iff.mp H
 obtain ⟨⟨t383, t384, t385⟩, A30, H⟩ := H
 have A3 := Aside0.mk A30
 clear A30
 obtain ⟨y386, hy386⟩ : ∃ y_ : List Int, y_ = (([0, 1, 2, 3, 12106, 12107, 12108, (-1), wrap64 (5000 + t380), wrap64 (t383 * 47), (-9223372036854775808), 9223372036854775807] : List Int)) := ⟨_, rfl⟩
 replace H : ((spec_l01PickInt.f s0_0 t384 t385 y386).bind fun bt389 => (some (bt389.1, bt389.2.1, bt389.2.2))) = some (r1, r2, r3) := by first | (rw [hy386]; with_reducible exact H) | (have H2_ := (Option.bind_some _ _).symm.trans H; rw [hy386]; with_reducible exact H2_) | (have H2_ := (Option.bind_some _ _).symm.trans H; with_reducible exact H2_) | with_reducible exact H | (rw [hy386]; exact H) | exact H
 have Ny386 := Aside0.mk hy386
 clear hy386
 replace H := Option.bind_eq_some_iff.mp H
 obtain ⟨⟨t389, t390, t391⟩, A40, H⟩ := H
 have A4 := Aside0.mk A40
 clear A40
 simp only [Option.some.injEq, Prod.mk.injEq] at H
 obtain ⟨rfl, rfl, rfl⟩ := H
 go_enter Try.func108, Try.ntmps108
 go_wp2_with (first | ((with_reducible refine gate_callee (f := 62) rfl ?_); refine gL (some 5) Try.func62 #[.pointer (some ⟨g, 0, none⟩), .int .i64 256] ?_; (with_reducible refine (spec_l01Below.calls g s0_0 s0_1 s0_2 256 t380 t381 t382 w0 _ ?side1 ?side2 A2.out).mono ?_); (case side1 => repeat (first | (with_reducible first | exact HI0.out | apply IsS89.alloc | apply IsS89.drewN | apply IsS89.drew | apply IsS89.set_1 | apply IsS89.set_2) | exact HI0.out)); (case side2 => repeat (first | (with_reducible first | exact HB.out | apply below_alloc | apply pw_below_drewN | apply below_drew1 | refine below_set ?_ (IsS89.ge HI0.out)) | exact HB.out)); rintro e w5 ⟨rfl, hi, hb, hk⟩; refine ⟨_, rfl, ?_⟩; replace HK := Aside0.mk (KeepBut.trans (by repeat (first | (with_reducible first | exact HK.out | apply KeepBut.set_ | apply keep_drewN | apply keep_drew | apply keep_alloc) | exact HK.out)) hk (.inl rfl)); replace HB := Aside0.mk (hb); replace HI0 := Aside0.mk (hi); (try clear hb)) | ((with_reducible refine gate_callee (f := 62) rfl ?_); refine gL (some 8) Try.func62 #[.pointer (some ⟨g, 0, none⟩), .int .i64 256] ?_; (with_reducible refine (spec_l01Below.calls g s0_0 t381 t382 256 t383 t384 t385 w0 _ ?side1 ?side2 A3.out).mono ?_); (case side1 => repeat (first | (with_reducible first | exact HI0.out | apply IsS89.alloc | apply IsS89.drewN | apply IsS89.drew | apply IsS89.set_1 | apply IsS89.set_2) | exact HI0.out)); (case side2 => repeat (first | (with_reducible first | exact HB.out | apply below_alloc | apply pw_below_drewN | apply below_drew1 | refine below_set ?_ (IsS89.ge HI0.out)) | exact HB.out)); rintro e w6 ⟨rfl, hi, hb, hk⟩; refine ⟨_, rfl, ?_⟩; replace HK := Aside0.mk (KeepBut.trans (by repeat (first | (with_reducible first | exact HK.out | apply KeepBut.set_ | apply keep_drewN | apply keep_drew | apply keep_alloc) | exact HK.out)) hk (.inl rfl)); replace HB := Aside0.mk (hb); replace HI0 := Aside0.mk (hi); (try clear hb)) | ((with_reducible refine gate_dst (N := 10) rfl ?_); refine Kd.R_lit (Kd.int .i64) _ 3 ?hg (N := 10) ?hd (xs := ([0, 1, 2, 3, 12106, 12107, 12108, (-1), wrap64 (5000 + t380), wrap64 (t383 * 47), (-9223372036854775808), 9223372036854775807] : List Int)) (inner := [.int .i64 0, .int .i64 1, .int .i64 2, .int .i64 3, .int .i64 12106, .int .i64 12107, .int .i64 12108, .int .i64 (-1), .int .i64 (wrap64 (5000 + t380)), .int .i64 (wrap64 (t383 * 47)), .int .i64 (-9223372036854775808), .int .i64 9223372036854775807]) (ok := fun _ => True) (okp := fun _ => True) ?hr ?hp (fun _ hk => hk) trivial (Below.refl _ _) (Nat.le_refl _) (by simp) ?_; (case hd => rfl); (case hg => rfl); (case hr => first | (go_simp; done) | (go_simp; rfl)); (case hp => exact (Reps.one (show Kd.M (Kd.int .i64) _ _ _ 0 [.int .i64 0] from rfl) (Reps.one (show Kd.M (Kd.int .i64) _ _ _ 1 [.int .i64 1] from rfl) (Reps.one (show Kd.M (Kd.int .i64) _ _ _ 2 [.int .i64 2] from rfl) (Reps.one (show Kd.M (Kd.int .i64) _ _ _ 3 [.int .i64 3] from rfl) (Reps.one (show Kd.M (Kd.int .i64) _ _ _ 12106 [.int .i64 12106] from rfl) (Reps.one (show Kd.M (Kd.int .i64) _ _ _ 12107 [.int .i64 12107] from rfl) (Reps.one (show Kd.M (Kd.int .i64) _ _ _ 12108 [.int .i64 12108] from rfl) (Reps.one (show Kd.M (Kd.int .i64) _ _ _ (-1) [.int .i64 (-1)] from rfl) (Reps.one (show Kd.M (Kd.int .i64) _ _ _ (wrap64 (5000 + t380)) [.int .i64 (wrap64 (5000 + t380))] from rfl) (Reps.one (show Kd.M (Kd.int .i64) _ _ _ (wrap64 (t383 * 47)) [.int .i64 (wrap64 (t383 * 47))] from rfl) (Reps.one (show Kd.M (Kd.int .i64) _ _ _ (-9223372036854775808) [.int .i64 (-9223372036854775808)] from rfl) (Reps.one (show Kd.M (Kd.int .i64) _ _ _ 9223372036854775807 [.int .i64 9223372036854775807] from rfl) (Reps.none _ _)))))))))))))); intro v387 w7 ho8 hb hg_ hnew_; clear hg_ hnew_; (first | rw [← Ny386.out] at ho8 | (simp only [Int.reduceToNat] at ho8; rw [← Ny386.out] at ho8)); have HO388 := Aside0.mk (Kd.R_lower ho8 (keep_size (w := w) (g := g) (row := none) (by repeat (first | (with_reducible first | exact HK.out | apply KeepBut.set_ | apply keep_drewN | apply keep_drew | apply keep_alloc) | exact HK.out)))); replace HK := Aside0.mk (KeepBut.trans (by repeat (first | (with_reducible first | exact HK.out | apply KeepBut.set_ | apply keep_drewN | apply keep_drew | apply keep_alloc) | exact HK.out)) (KeepBut.of_below hb g none) (.inl rfl)); replace HB := Aside0.mk (below_step (by repeat (first | (with_reducible first | exact HB.out | apply below_alloc | apply pw_below_drewN | apply below_drew1 | refine below_set ?_ (IsS89.ge HI0.out)) | exact HB.out)) hb); replace HI0 := Aside0.mk (IsS89.below (by repeat (first | (with_reducible first | exact HI0.out | apply IsS89.alloc | apply IsS89.drewN | apply IsS89.drew | apply IsS89.set_1 | apply IsS89.set_2) | exact HI0.out)) hb); clear hb ho8; obtain ⟨Ao9, co9, eo9⟩ := Kd.R_slice HO388.out; subst eo9) | ((with_reducible refine gate_callee (f := 97) rfl ?_); refine gL (some 11) Try.func97 #[.pointer (some ⟨g, 0, none⟩), .slice Ao9 y386.length co9] ?_; (with_reducible refine (spec_l01PickInt.calls g s0_0 t384 t385 _ _ y386 t389 t390 t391 w0 _ ?side1 ?side2 ?side3 ?side4 ?side5 A4.out).mono ?_); (case side1 => repeat (first | (with_reducible first | exact HI0.out | apply IsS89.alloc | apply IsS89.drewN | apply IsS89.drew | apply IsS89.set_1 | apply IsS89.set_2) | exact HI0.out)); (case side2 => repeat (first | (with_reducible first | exact HB.out | apply below_alloc | apply pw_below_drewN | apply below_drew1 | refine below_set ?_ (IsS89.ge HI0.out)) | exact HB.out)); (case side3 => exact cP ((Kd.R_reads' HO388.out).2.2)); (case side4 => exact (Kd.R_reads' HO388.out).2.1); (case side5 => exact far_slice (IsS89.own_ne HI0.out HO388.out (by decide))); rintro e w10 ⟨rfl, hi, hb, hk⟩; refine ⟨_, rfl, ?_⟩; replace HO388 := Aside0.mk (Kd.R_mono (Kd.R_keep (IsS89.apart (show IsS89 w0 _ g s0_0 t384 t385 from by repeat (first | (with_reducible first | exact HI0.out | apply IsS89.alloc | apply IsS89.drewN | apply IsS89.drew | apply IsS89.set_1 | apply IsS89.set_2) | exact HI0.out)) (rP HO388) (by decide)) hk (fun _ h => h.2)) (fun _ h => h.1)); replace HK := Aside0.mk (KeepBut.trans (by repeat (first | (with_reducible first | exact HK.out | apply KeepBut.set_ | apply keep_drewN | apply keep_drew | apply keep_alloc) | exact HK.out)) hk (.inl rfl)); replace HB := Aside0.mk (hb); replace HI0 := Aside0.mk (hi); (try clear hb)))
 go_ret
 exact ⟨by first | rfl | (simp [errW_none, errW_some] <;> rfl) | (simp [*, errW_none, errW_some] <;> rfl), by repeat (first | (with_reducible first | exact HI0.out | apply IsS89.alloc | apply IsS89.drewN | apply IsS89.drew | apply IsS89.set_1 | apply IsS89.set_2) | exact HI0.out), by repeat (first | (with_reducible first | exact HB.out | apply below_alloc | apply pw_below_drewN | apply below_drew1 | refine below_set ?_ (IsS89.ge HI0.out)) | exact HB.out), by repeat (first | (with_reducible first | exact HK.out | apply KeepBut.set_ | apply keep_drewN | apply keep_drew | apply keep_alloc) | exact HK.out)⟩
/-! ### spec_l07Any: function 90 -/
def spec_l07Any.j0 : Nat → Int → Bool → List Int → Int → Int → Option (Int × Int × Bool × Int × Int)
 | 0, _, _, _, _, _ => none
 | k + 1, x4, x5, x1000, x1001, x1002 => if x5 = true then ((spec_l07Curve.f k x1000 x1001 x1002).bind fun bt396 => (some (bt396.1, bt396.2.1, bt396.2.2.1, bt396.2.2.2.1, bt396.2.2.2.2))) else (if x4 = 3 then ((spec_l04Num.f x1000 x1001 x1002).bind fun bt401 => ((spec_l04Num.f x1000 bt401.2.1 bt401.2.2).bind fun bt404 => (some (bt401.1, bt404.1, false, bt404.2.1, bt404.2.2)))) else (if x4 = 4 then ((spec_l01Below.f x1000 x1001 x1002 3).bind fun bt407 => (some (bt407.1, 0, true, bt407.2.1, bt407.2.2))) else (if x4 = 5 then (some (0, 0, false, x1001, x1002)) else ((spec_l07Group.f k x1000 x1001 x1002).bind fun bt410 => (some (bt410.1, bt410.2.1, bt410.2.2.1, bt410.2.2.2.1, bt410.2.2.2.2))))))
def spec_l07Any.f (k : Nat) (s0_0 : List Int) (s0_1 : Int) (s0_2 : Int) : Option (Int × Int × Bool × Int × Int) := (spec_l01Below.f s0_0 s0_1 s0_2 10).bind fun bt393 => (if bt393.1 = 0 then (spec_l07Any.j0 k bt393.1 (bt393.1 == 0) s0_0 bt393.2.1 bt393.2.2) else (if bt393.1 = 1 then (spec_l07Any.j0 k bt393.1 (bt393.1 == 1) s0_0 bt393.2.1 bt393.2.2) else (spec_l07Any.j0 k bt393.1 (bt393.1 == 2) s0_0 bt393.2.1 bt393.2.2)))
theorem spec_l07Any.mono_l : ∀ k, (∀ y0 y1 y2 y3 y4, LeO (spec_l07Any.j0 k y0 y1 y2 y3 y4) (spec_l07Any.j0 (k + 1) y0 y1 y2 y3 y4))
 | 0 => fun _ _ _ _ _ r h => by simp [spec_l07Any.j0] at h
 | k + 1 => by
  have ih0 := spec_l07Any.mono_l k
  ·intro y0 y1 y2 y3 y4
   unfold spec_l07Any.j0
   repeat' first
   | (with_reducible exact ih0 _ _ _ _ _)
   | (with_reducible exact spec_l07Curve.mono _ _ _ _)
   | (with_reducible exact spec_l07Group.mono _ _ _ _)
   | (with_reducible exact LeO.refl _)
   | (with_reducible exact LeO.none _)
   | (with_reducible refine LeO.ite ?_ ?_)
   | (with_reducible refine LeO.bind ?_ (fun _ => ?_))
   | exact ih0 _ _ _ _ _
   | exact spec_l07Curve.mono _ _ _ _
   | exact spec_l07Group.mono _ _ _ _
   | exact LeO.none _
   | refine LeO.ite ?_ ?_
   | refine LeO.bind ?_ (fun _ => ?_)
theorem spec_l07Any.mono : ∀ a0 a1 a2 k, LeO (spec_l07Any.f k a0 a1 a2) (spec_l07Any.f (k + 1) a0 a1 a2) := by
 intro a0 a1 a2 k
 have ih0 := spec_l07Any.mono_l k
 unfold spec_l07Any.f
 repeat' first
   | (with_reducible exact ih0 _ _ _ _ _)
   | (with_reducible exact spec_l07Curve.mono _ _ _ _)
   | (with_reducible exact spec_l07Group.mono _ _ _ _)
   | (with_reducible exact LeO.refl _)
   | (with_reducible exact LeO.none _)
   | (with_reducible refine LeO.ite ?_ ?_)
   | (with_reducible refine LeO.bind ?_ (fun _ => ?_))
   | exact ih0 _ _ _ _ _
   | exact spec_l07Curve.mono _ _ _ _
   | exact spec_l07Group.mono _ _ _ _
   | exact LeO.none _
   | refine LeO.ite ?_ ?_
   | refine LeO.bind ?_ (fun _ => ?_)
set_option maxHeartbeats 8000000 in
set_option maxRecDepth 100000 in
theorem spec_l07Any.calls (k : Nat) (g : Nat) (s0_0 : List Int) (s0_1 : Int) (s0_2 : Int) (r1 : Int) (r2 : Int) (r3 : Bool) (r4 : Int) (r5 : Int) (w0 w : World) (hI : IsS89 w0 w g s0_0 s0_1 s0_2) (hB : Below w0.heap.size w0 w) (h : spec_l07Any.f k s0_0 s0_1 s0_2 = some (r1, r2, r3, r4, r5)) :
  Calls Try.prog 90 #[.pointer (some ⟨g, 0, none⟩)] w fun e w' => e = .returned (.agg #[.int .i64 r1, .int .i64 r2, .bool r3]) ∧ IsS89 w0 w' g s0_0 r4 r5 ∧ Below w0.heap.size w0 w' ∧ KeepBut w w' g none := by
 have hu25 := Try.underlying25
 have HI0 := Aside0.mk hI
 have HK := Aside0.mk (KeepBut.refl w g none)
 have HL := Aside0.mk hB.size
 clear hI
 have HW0 := Aside0.mk hB.size
 have HB := Aside0.mk hB
 clear hB
 have H : ((spec_l01Below.f s0_0 s0_1 s0_2 10).bind fun bt393 => (if bt393.1 = 0 then (spec_l07Any.j0 k bt393.1 (bt393.1 == 0) s0_0 bt393.2.1 bt393.2.2) else (if bt393.1 = 1 then (spec_l07Any.j0 k bt393.1 (bt393.1 == 1) s0_0 bt393.2.1 bt393.2.2) else (spec_l07Any.j0 k bt393.1 (bt393.1 == 2) s0_0 bt393.2.1 bt393.2.2)))) = some (r1, r2, r3, r4, r5) := h
 clear h
 replace H := Option.bind_eq_some_iff.mp H
 obtain ⟨⟨t393, t394, t395⟩, A20, H⟩ := H
 have A2 := Aside0.mk A20
 clear A20
 have HC3 := Aside0.mk H
 clear H
 go_enter Try.func90, Try.ntmps90
 go_upto_if 5 with (first | ((with_reducible refine gate_dst (N := 2) rfl ?_); refine bE 2 #[.int .i64 0, .int .i64 0, .bool false] 25 ?_; intro gb392 hg w4 hbox hb; replace HB := Aside0.mk (below_step (by repeat (first | (with_reducible first | exact HB.out | apply below_alloc | apply pw_below_drewN | apply below_drew1 | refine below_set ?_ (IsS89.ge HI0.out)) | exact HB.out)) hb); have BK392 := Aside0.mk (hbox); have GW392 := Aside0.mk ((by rw [hg]; exact (keep_size (w := w) (g := g) (row := none) (by repeat (first | (with_reducible first | exact HK.out | apply KeepBut.set_ | apply keep_drewN | apply keep_drew | apply keep_alloc) | exact HK.out))) : w.heap.size ≤ gb392)); have GE392 := Aside0.mk ((Nat.le_trans HW0.out (by rw [hg]; exact (keep_size (w := w) (g := g) (row := none) (by repeat (first | (with_reducible first | exact HK.out | apply KeepBut.set_ | apply keep_drewN | apply keep_drew | apply keep_alloc) | exact HK.out))) : w.heap.size ≤ gb392) : w0.heap.size ≤ gb392)); replace HK := Aside0.mk (KeepBut.trans (by repeat (first | (with_reducible first | exact HK.out | apply KeepBut.set_ | apply keep_drewN | apply keep_drew | apply keep_alloc) | exact HK.out)) (KeepBut.of_below hb g none) (.inl rfl)); have NB0_392 := Aside0.mk ((by rw [hg]; exact Nat.ne_of_lt (IsS89.lt (show IsS89 w0 _ g s0_0 s0_1 s0_2 from by repeat (first | (with_reducible first | exact HI0.out | apply IsS89.alloc | apply IsS89.drewN | apply IsS89.drew | apply IsS89.set_1 | apply IsS89.set_2) | exact HI0.out))) : g ≠ gb392)); have NB392_0 := Aside0.mk ((by rw [hg]; exact Nat.ne_of_gt (IsS89.lt (show IsS89 w0 _ g s0_0 s0_1 s0_2 from by repeat (first | (with_reducible first | exact HI0.out | apply IsS89.alloc | apply IsS89.drewN | apply IsS89.drew | apply IsS89.set_1 | apply IsS89.set_2) | exact HI0.out))) : gb392 ≠ g)); replace HI0 := Aside0.mk (IsS89.below (by repeat (first | (with_reducible first | exact HI0.out | apply IsS89.alloc | apply IsS89.drewN | apply IsS89.drew | apply IsS89.set_1 | apply IsS89.set_2) | exact HI0.out)) hb); clear hb hbox hg) | ((with_reducible refine gate_callee (f := 62) rfl ?_); refine gL (some 4) Try.func62 #[.pointer (some ⟨g, 0, none⟩), .int .i64 10] ?_; (with_reducible refine (spec_l01Below.calls g s0_0 s0_1 s0_2 10 t393 t394 t395 w0 _ ?side1 ?side2 A2.out).mono ?_); (case side1 => repeat (first | (with_reducible first | exact HI0.out | apply IsS89.alloc | apply IsS89.drewN | apply IsS89.drew | apply IsS89.set_1 | apply IsS89.set_2 | refine IsS89.far ?_ NB0_392.out _) | exact HI0.out)); (case side2 => repeat (first | (with_reducible first | exact HB.out | apply below_alloc | apply pw_below_drewN | apply below_drew1 | refine below_set ?_ (IsS89.ge HI0.out) | refine below_set ?_ GE392.out) | exact HB.out)); rintro e w5 ⟨rfl, hi, hb, hk⟩; refine ⟨_, rfl, ?_⟩; replace BK392 := Aside0.mk (KeepBut.blk hk (g' := gb392) (o := .cells #[.int .i64 0, .int .i64 0, .bool false] 25 (0, 0)) (bP BK392) NB392_0.out (by simp)); replace HK := Aside0.mk (KeepBut.trans (by repeat (first | (with_reducible first | exact HK.out | apply KeepBut.set_ | apply keep_drewN | apply keep_drew | apply keep_alloc | refine keep_far ?_ GW392.out _) | exact HK.out)) hk (.inl rfl)); replace HB := Aside0.mk (hb); replace HI0 := Aside0.mk (hi); (try clear hb)))
 (try simp only [Act.put, List.setIfInBounds_toArray, List.set_cons_zero, List.set_cons_succ])
 go_cut [5] (fun v5 wc => ∃ (kq : Nat) (x5_2 : Bool), v5 = .bool x5_2 ∧ Aside0 (spec_l07Any.j0 kq t393 x5_2 s0_0 t394 t395 = some (r1, r2, r3, r4, r5)) ∧ Aside0 (kq ≤ k) ∧ Aside0 (wc.heap[gb392]? = some (.cells #[.int .i64 0, .int .i64 0, .bool false] 25 (0, 0))) ∧ Aside0 (IsS89 w0 wc g s0_0 t394 t395) ∧ Aside0 (KeepBut w wc g none) ∧ Aside0 (Below w0.heap.size w0 wc))
 case first =>
  have H := HC3.out
  clear HC3
  by_cases c6 : t393 = 0
  ·rw [if_pos c6] at H
   have c6b0 : (t393 == 0) = true := beq_iff_eq.mpr c6
   have c6b1 : (t393 != 0) = false := bne_eq_false_iff_eq.mpr c6
   clear c6
   (first | rw [c6b0] | (simp only [i64_w, i32_w]; rw [c6b0]) | rw [c6b1] | skip)
   have H' := Aside0.mk H
   clear H
   go_wp2
   go_meet
   case rel => exact ⟨_, ((t393 == 0)), rS, H', ⟨by first | omega | exact Nat.le_refl _⟩, ⟨bP BK392⟩, ⟨by repeat (first | (with_reducible first | exact HI0.out | apply IsS89.alloc | apply IsS89.drewN | apply IsS89.drew | apply IsS89.set_1 | apply IsS89.set_2 | refine IsS89.far ?_ NB0_392.out _) | exact HI0.out)⟩, ⟨by repeat (first | (with_reducible first | exact HK.out | apply KeepBut.set_ | apply keep_drewN | apply keep_drew | apply keep_alloc | refine keep_far ?_ GW392.out _) | exact HK.out)⟩, ⟨by repeat (first | (with_reducible first | exact HB.out | apply below_alloc | apply pw_below_drewN | apply below_drew1 | refine below_set ?_ (IsS89.ge HI0.out) | refine below_set ?_ GE392.out) | exact HB.out)⟩⟩
  ·rw [if_neg c6] at H
   have c6b0 : (t393 == 0) = false := beq_eq_false_iff_ne.mpr c6
   have c6b1 : (t393 != 0) = true := bne_iff_ne.mpr c6
   (first | rw [c6b0] | (simp only [i64_w, i32_w]; rw [c6b0]) | rw [c6b1] | skip)
   by_cases c7 : t393 = 1
   ·rw [if_pos c7] at H
    have c7b0 : (t393 == 1) = true := beq_iff_eq.mpr c7
    have c7b1 : (t393 != 1) = false := bne_eq_false_iff_eq.mpr c7
    clear c7
    have H' := Aside0.mk H
    clear H
    go_wp2
    go_meet
    case rel => exact ⟨_, ((t393 == 1)), rS, H', ⟨by first | omega | exact Nat.le_refl _⟩, ⟨bP BK392⟩, ⟨by repeat (first | (with_reducible first | exact HI0.out | apply IsS89.alloc | apply IsS89.drewN | apply IsS89.drew | apply IsS89.set_1 | apply IsS89.set_2 | refine IsS89.far ?_ NB0_392.out _) | exact HI0.out)⟩, ⟨by repeat (first | (with_reducible first | exact HK.out | apply KeepBut.set_ | apply keep_drewN | apply keep_drew | apply keep_alloc | refine keep_far ?_ GW392.out _) | exact HK.out)⟩, ⟨by repeat (first | (with_reducible first | exact HB.out | apply below_alloc | apply pw_below_drewN | apply below_drew1 | refine below_set ?_ (IsS89.ge HI0.out) | refine below_set ?_ GE392.out) | exact HB.out)⟩⟩
   ·rw [if_neg c7] at H
    have c7b0 : (t393 == 1) = false := beq_eq_false_iff_ne.mpr c7
    have c7b1 : (t393 != 1) = true := bne_iff_ne.mpr c7
    have H' := Aside0.mk H
    clear H
    go_wp2
    go_meet
    case rel => exact ⟨_, ((t393 == 2)), rS, H', ⟨by first | omega | exact Nat.le_refl _⟩, ⟨bP BK392⟩, ⟨by repeat (first | (with_reducible first | exact HI0.out | apply IsS89.alloc | apply IsS89.drewN | apply IsS89.drew | apply IsS89.set_1 | apply IsS89.set_2 | refine IsS89.far ?_ NB0_392.out _) | exact HI0.out)⟩, ⟨by repeat (first | (with_reducible first | exact HK.out | apply KeepBut.set_ | apply keep_drewN | apply keep_drew | apply keep_alloc | refine keep_far ?_ GW392.out _) | exact HK.out)⟩, ⟨by repeat (first | (with_reducible first | exact HB.out | apply below_alloc | apply pw_below_drewN | apply below_drew1 | refine below_set ?_ (IsS89.ge HI0.out) | refine below_set ?_ GE392.out) | exact HB.out)⟩⟩
 case rest =>
  clear HC3
  try clear p2
  try clear c6
  try clear c6b0
  try clear c6b1
  try clear c7
  try clear c7b0
  try clear c7b1
  obtain ⟨kq, x5_2, rfl, HA, HJ2, BK392, HI0, HK, HB⟩ := hcut
  cases kq with
  | zero => exact absurd HA.out (by simp [spec_l07Any.j0])
  | succ kj2 =>
   have H := HA.out
   clear HA
   simp only [spec_l07Any.j0] at H
   by_cases c8 : x5_2 = true
   ·subst c8
    rw [if_pos rfl] at H
    replace H := Option.bind_eq_some_iff.mp H
    obtain ⟨⟨t396, t397, t398, t399, t400⟩, A90, H⟩ := H
    have A9 := Aside0.mk A90
    clear A90
    simp only [Option.some.injEq, Prod.mk.injEq] at H
    obtain ⟨rfl, rfl, rfl, rfl, rfl⟩ := H
    go_wp2_with (first | ((with_reducible refine gate_callee (f := 81) rfl ?_); refine gL (some 10) Try.func81 #[.pointer (some ⟨g, 0, none⟩)] ?_; (with_reducible refine (spec_l07Curve.calls kj2 g s0_0 t394 t395 t396 t397 t398 t399 t400 w0 _ ?side1 ?side2 A9.out).mono ?_); (case side1 => repeat (first | (with_reducible first | exact HI0.out | apply IsS89.alloc | apply IsS89.drewN | apply IsS89.drew | apply IsS89.set_1 | apply IsS89.set_2 | refine IsS89.far ?_ NB0_392.out _) | exact HI0.out)); (case side2 => repeat (first | (with_reducible first | exact HB.out | apply below_alloc | apply pw_below_drewN | apply below_drew1 | refine below_set ?_ (IsS89.ge HI0.out) | refine below_set ?_ GE392.out) | exact HB.out)); rintro e w10 ⟨rfl, hi, hb, hk⟩; refine ⟨_, rfl, ?_⟩; replace BK392 := Aside0.mk (KeepBut.blk hk (g' := gb392) (o := .cells #[.int .i64 0, .int .i64 0, .bool false] 25 (0, 0)) (bP BK392) NB392_0.out (by simp)); replace HK := Aside0.mk (KeepBut.trans (by repeat (first | (with_reducible first | exact HK.out | apply KeepBut.set_ | apply keep_drewN | apply keep_drew | apply keep_alloc | refine keep_far ?_ GW392.out _) | exact HK.out)) hk (.inl rfl)); replace HB := Aside0.mk (hb); replace HI0 := Aside0.mk (hi); (try clear hb); obtain ⟨hnb11, hnc11⟩ := nB NB392_0; obtain ⟨hcz12_0, hcz12_1, hcz12_2, hfz12_0, hfz12_1, hfz12_2⟩ := bK3 (w := w10) BK392))
    refine rC gb392 25 #[.int .i64 t396, .int .i64 t397, .bool t398] (bU BK392) Try.underlying25 ?_
    exact ⟨by first | rfl | (simp [errW_none, errW_some] <;> rfl) | (simp [*, errW_none, errW_some] <;> rfl), by repeat (first | (with_reducible first | exact HI0.out | apply IsS89.alloc | apply IsS89.drewN | apply IsS89.drew | apply IsS89.set_1 | apply IsS89.set_2 | refine IsS89.far ?_ NB0_392.out _) | exact HI0.out), by repeat (first | (with_reducible first | exact HB.out | apply below_alloc | apply pw_below_drewN | apply below_drew1 | refine below_set ?_ (IsS89.ge HI0.out) | refine below_set ?_ GE392.out) | exact HB.out), by repeat (first | (with_reducible first | exact HK.out | apply KeepBut.set_ | apply keep_drewN | apply keep_drew | apply keep_alloc | refine keep_far ?_ GW392.out _) | exact HK.out)⟩
   ·replace c8 := Bool.eq_false_iff.mpr c8
    subst c8
    rw [if_neg (show ¬ (false = true) by decide)] at H
    by_cases c13 : t393 = 3
    ·rw [if_pos c13] at H
     have c13b0 : (t393 == 3) = true := beq_iff_eq.mpr c13
     have c13b1 : (t393 != 3) = false := bne_eq_false_iff_eq.mpr c13
     clear c13
     replace H := Option.bind_eq_some_iff.mp H
     obtain ⟨⟨t401, t402, t403⟩, A140, H⟩ := H
     have A14 := Aside0.mk A140
     clear A140
     replace H := Option.bind_eq_some_iff.mp H
     obtain ⟨⟨t404, t405, t406⟩, A150, H⟩ := H
     have A15 := Aside0.mk A150
     clear A150
     simp only [Option.some.injEq, Prod.mk.injEq] at H
     obtain ⟨rfl, rfl, rfl, rfl, rfl⟩ := H
     go_wp2_with (first | ((with_reducible refine gate_callee (f := 108) rfl ?_); refine gL (some 14) Try.func108 #[.pointer (some ⟨g, 0, none⟩)] ?_; (with_reducible refine (spec_l04Num.calls g s0_0 t394 t395 t401 t402 t403 w0 _ ?side1 ?side2 A14.out).mono ?_); (case side1 => repeat (first | (with_reducible first | exact HI0.out | apply IsS89.alloc | apply IsS89.drewN | apply IsS89.drew | apply IsS89.set_1 | apply IsS89.set_2 | refine IsS89.far ?_ NB0_392.out _) | exact HI0.out)); (case side2 => repeat (first | (with_reducible first | exact HB.out | apply below_alloc | apply pw_below_drewN | apply below_drew1 | refine below_set ?_ (IsS89.ge HI0.out) | refine below_set ?_ GE392.out) | exact HB.out)); rintro e w16 ⟨rfl, hi, hb, hk⟩; refine ⟨_, rfl, ?_⟩; replace BK392 := Aside0.mk (KeepBut.blk hk (g' := gb392) (o := .cells #[.int .i64 0, .int .i64 0, .bool false] 25 (0, 0)) (bP BK392) NB392_0.out (by simp)); replace HK := Aside0.mk (KeepBut.trans (by repeat (first | (with_reducible first | exact HK.out | apply KeepBut.set_ | apply keep_drewN | apply keep_drew | apply keep_alloc | refine keep_far ?_ GW392.out _) | exact HK.out)) hk (.inl rfl)); replace HB := Aside0.mk (hb); replace HI0 := Aside0.mk (hi); (try clear hb)) | ((with_reducible refine gate_callee (f := 108) rfl ?_); refine gL (some 16) Try.func108 #[.pointer (some ⟨g, 0, none⟩)] ?_; (with_reducible refine (spec_l04Num.calls g s0_0 t402 t403 t404 t405 t406 w0 _ ?side1 ?side2 A15.out).mono ?_); (case side1 => repeat (first | (with_reducible first | exact HI0.out | apply IsS89.alloc | apply IsS89.drewN | apply IsS89.drew | apply IsS89.set_1 | apply IsS89.set_2 | refine IsS89.far ?_ NB0_392.out _) | exact HI0.out)); (case side2 => repeat (first | (with_reducible first | exact HB.out | apply below_alloc | apply pw_below_drewN | apply below_drew1 | refine below_set ?_ (IsS89.ge HI0.out) | refine below_set ?_ GE392.out) | exact HB.out)); rintro e w17 ⟨rfl, hi, hb, hk⟩; refine ⟨_, rfl, ?_⟩; replace BK392 := Aside0.mk (KeepBut.blk hk (g' := gb392) (o := .cells #[.int .i64 0, .int .i64 0, .bool false] 25 (0, 0)) (bP BK392) NB392_0.out (by simp)); replace HK := Aside0.mk (KeepBut.trans (by repeat (first | (with_reducible first | exact HK.out | apply KeepBut.set_ | apply keep_drewN | apply keep_drew | apply keep_alloc | refine keep_far ?_ GW392.out _) | exact HK.out)) hk (.inl rfl)); replace HB := Aside0.mk (hb); replace HI0 := Aside0.mk (hi); (try clear hb); obtain ⟨hnb18, hnc18⟩ := nB NB392_0; obtain ⟨hcz19_0, hcz19_1, hcz19_2, hfz19_0, hfz19_1, hfz19_2⟩ := bK3 (w := w17) BK392))
     refine rC gb392 25 #[.int .i64 t401, .int .i64 t404, .bool false] (bU BK392) Try.underlying25 ?_
     exact ⟨by first | rfl | (simp [errW_none, errW_some] <;> rfl) | (simp [*, errW_none, errW_some] <;> rfl), by repeat (first | (with_reducible first | exact HI0.out | apply IsS89.alloc | apply IsS89.drewN | apply IsS89.drew | apply IsS89.set_1 | apply IsS89.set_2 | refine IsS89.far ?_ NB0_392.out _) | exact HI0.out), by repeat (first | (with_reducible first | exact HB.out | apply below_alloc | apply pw_below_drewN | apply below_drew1 | refine below_set ?_ (IsS89.ge HI0.out) | refine below_set ?_ GE392.out) | exact HB.out), by repeat (first | (with_reducible first | exact HK.out | apply KeepBut.set_ | apply keep_drewN | apply keep_drew | apply keep_alloc | refine keep_far ?_ GW392.out _) | exact HK.out)⟩
    ·rw [if_neg c13] at H
     have c13b0 : (t393 == 3) = false := beq_eq_false_iff_ne.mpr c13
     have c13b1 : (t393 != 3) = true := bne_iff_ne.mpr c13
     by_cases c20 : t393 = 4
     ·rw [if_pos c20] at H
      have c20b0 : (t393 == 4) = true := beq_iff_eq.mpr c20
      have c20b1 : (t393 != 4) = false := bne_eq_false_iff_eq.mpr c20
      clear c20
      replace H := Option.bind_eq_some_iff.mp H
      obtain ⟨⟨t407, t408, t409⟩, A210, H⟩ := H
      have A21 := Aside0.mk A210
      clear A210
      simp only [Option.some.injEq, Prod.mk.injEq] at H
      obtain ⟨rfl, rfl, rfl, rfl, rfl⟩ := H
      go_wp2_with (first | ((with_reducible refine gate_callee (f := 62) rfl ?_); refine gL (some 21) Try.func62 #[.pointer (some ⟨g, 0, none⟩), .int .i64 3] ?_; (with_reducible refine (spec_l01Below.calls g s0_0 t394 t395 3 t407 t408 t409 w0 _ ?side1 ?side2 A21.out).mono ?_); (case side1 => repeat (first | (with_reducible first | exact HI0.out | apply IsS89.alloc | apply IsS89.drewN | apply IsS89.drew | apply IsS89.set_1 | apply IsS89.set_2 | refine IsS89.far ?_ NB0_392.out _) | exact HI0.out)); (case side2 => repeat (first | (with_reducible first | exact HB.out | apply below_alloc | apply pw_below_drewN | apply below_drew1 | refine below_set ?_ (IsS89.ge HI0.out) | refine below_set ?_ GE392.out) | exact HB.out)); rintro e w22 ⟨rfl, hi, hb, hk⟩; refine ⟨_, rfl, ?_⟩; replace BK392 := Aside0.mk (KeepBut.blk hk (g' := gb392) (o := .cells #[.int .i64 0, .int .i64 0, .bool false] 25 (0, 0)) (bP BK392) NB392_0.out (by simp)); replace HK := Aside0.mk (KeepBut.trans (by repeat (first | (with_reducible first | exact HK.out | apply KeepBut.set_ | apply keep_drewN | apply keep_drew | apply keep_alloc | refine keep_far ?_ GW392.out _) | exact HK.out)) hk (.inl rfl)); replace HB := Aside0.mk (hb); replace HI0 := Aside0.mk (hi); (try clear hb); obtain ⟨hnb23, hnc23⟩ := nB NB392_0; obtain ⟨hcz24_0, hcz24_1, hcz24_2, hfz24_0, hfz24_1, hfz24_2⟩ := bK3 (w := w22) BK392))
      refine rC gb392 25 #[.int .i64 t407, .int .i64 0, .bool true] (bU BK392) Try.underlying25 ?_
      exact ⟨by first | rfl | (simp [errW_none, errW_some] <;> rfl) | (simp [*, errW_none, errW_some] <;> rfl), by repeat (first | (with_reducible first | exact HI0.out | apply IsS89.alloc | apply IsS89.drewN | apply IsS89.drew | apply IsS89.set_1 | apply IsS89.set_2 | refine IsS89.far ?_ NB0_392.out _) | exact HI0.out), by repeat (first | (with_reducible first | exact HB.out | apply below_alloc | apply pw_below_drewN | apply below_drew1 | refine below_set ?_ (IsS89.ge HI0.out) | refine below_set ?_ GE392.out) | exact HB.out), by repeat (first | (with_reducible first | exact HK.out | apply KeepBut.set_ | apply keep_drewN | apply keep_drew | apply keep_alloc | refine keep_far ?_ GW392.out _) | exact HK.out)⟩
     ·rw [if_neg c20] at H
      have c20b0 : (t393 == 4) = false := beq_eq_false_iff_ne.mpr c20
      have c20b1 : (t393 != 4) = true := bne_iff_ne.mpr c20
      by_cases c25 : t393 = 5
      ·rw [if_pos c25] at H
       have c25b0 : (t393 == 5) = true := beq_iff_eq.mpr c25
       have c25b1 : (t393 != 5) = false := bne_eq_false_iff_eq.mpr c25
       clear c25
       simp only [Option.some.injEq, Prod.mk.injEq] at H
       obtain ⟨rfl, rfl, rfl, rfl, rfl⟩ := H
       obtain ⟨hnb26, hnc26⟩ := nB NB392_0
       obtain ⟨hcz27_0, hcz27_1, hcz27_2, hfz27_0, hfz27_1, hfz27_2⟩ := bK3 (w := wc) BK392
       go_wp2
       refine rC gb392 25 #[.int .i64 0, .int .i64 0, .bool false] (bU BK392) Try.underlying25 ?_
       exact ⟨by first | rfl | (simp [errW_none, errW_some] <;> rfl) | (simp [*, errW_none, errW_some] <;> rfl), by repeat (first | (with_reducible first | exact HI0.out | apply IsS89.alloc | apply IsS89.drewN | apply IsS89.drew | apply IsS89.set_1 | apply IsS89.set_2 | refine IsS89.far ?_ NB0_392.out _) | exact HI0.out), by repeat (first | (with_reducible first | exact HB.out | apply below_alloc | apply pw_below_drewN | apply below_drew1 | refine below_set ?_ (IsS89.ge HI0.out) | refine below_set ?_ GE392.out) | exact HB.out), by repeat (first | (with_reducible first | exact HK.out | apply KeepBut.set_ | apply keep_drewN | apply keep_drew | apply keep_alloc | refine keep_far ?_ GW392.out _) | exact HK.out)⟩
      ·rw [if_neg c25] at H
       have c25b0 : (t393 == 5) = false := beq_eq_false_iff_ne.mpr c25
       have c25b1 : (t393 != 5) = true := bne_iff_ne.mpr c25
       replace H := Option.bind_eq_some_iff.mp H
       obtain ⟨⟨t410, t411, t412, t413, t414⟩, A280, H⟩ := H
       have A28 := Aside0.mk A280
       clear A280
       simp only [Option.some.injEq, Prod.mk.injEq] at H
       obtain ⟨rfl, rfl, rfl, rfl, rfl⟩ := H
       go_wp2_with (first | ((with_reducible refine gate_callee (f := 60) rfl ?_); refine gL (some 27) Try.func60 #[.pointer (some ⟨g, 0, none⟩)] ?_; (with_reducible refine (spec_l07Group.calls kj2 g s0_0 t394 t395 t410 t411 t412 t413 t414 w0 _ ?side1 ?side2 A28.out).mono ?_); (case side1 => repeat (first | (with_reducible first | exact HI0.out | apply IsS89.alloc | apply IsS89.drewN | apply IsS89.drew | apply IsS89.set_1 | apply IsS89.set_2 | refine IsS89.far ?_ NB0_392.out _) | exact HI0.out)); (case side2 => repeat (first | (with_reducible first | exact HB.out | apply below_alloc | apply pw_below_drewN | apply below_drew1 | refine below_set ?_ (IsS89.ge HI0.out) | refine below_set ?_ GE392.out) | exact HB.out)); rintro e w29 ⟨rfl, hi, hb, hk⟩; refine ⟨_, rfl, ?_⟩; replace BK392 := Aside0.mk (KeepBut.blk hk (g' := gb392) (o := .cells #[.int .i64 0, .int .i64 0, .bool false] 25 (0, 0)) (bP BK392) NB392_0.out (by simp)); replace HK := Aside0.mk (KeepBut.trans (by repeat (first | (with_reducible first | exact HK.out | apply KeepBut.set_ | apply keep_drewN | apply keep_drew | apply keep_alloc | refine keep_far ?_ GW392.out _) | exact HK.out)) hk (.inl rfl)); replace HB := Aside0.mk (hb); replace HI0 := Aside0.mk (hi); (try clear hb); obtain ⟨hnb30, hnc30⟩ := nB NB392_0; obtain ⟨hcz31_0, hcz31_1, hcz31_2, hfz31_0, hfz31_1, hfz31_2⟩ := bK3 (w := w29) BK392))
       refine rC gb392 25 #[.int .i64 t410, .int .i64 t411, .bool t412] (bU BK392) Try.underlying25 ?_
       exact ⟨by first | rfl | (simp [errW_none, errW_some] <;> rfl) | (simp [*, errW_none, errW_some] <;> rfl), by repeat (first | (with_reducible first | exact HI0.out | apply IsS89.alloc | apply IsS89.drewN | apply IsS89.drew | apply IsS89.set_1 | apply IsS89.set_2 | refine IsS89.far ?_ NB0_392.out _) | exact HI0.out), by repeat (first | (with_reducible first | exact HB.out | apply below_alloc | apply pw_below_drewN | apply below_drew1 | refine below_set ?_ (IsS89.ge HI0.out) | refine below_set ?_ GE392.out) | exact HB.out), by repeat (first | (with_reducible first | exact HK.out | apply KeepBut.set_ | apply keep_drewN | apply keep_drew | apply keep_alloc | refine keep_far ?_ GW392.out _) | exact HK.out)⟩
end Go.Proofs.Ytmbjefdkjdemhaa.Pf
end
section
namespace Go.Proofs.Ytmbjefdkjdemhaa.Pf
open Go.RowKit Go.Proofs.YtmbjefdkjdemhaaW.PrintWords Go.Proofs.YtmbjefdkjdemhaaW.PrintLast Go.Proofs.YtmbjefdkjdemhaaW.PrintMore
attribute [local go_sem] max2_int min2_int max_two min_two max_three min_three max_four min_four   -- for this text's walks alone
set_option linter.unusedVariables false
set_option linter.unusedSimpArgs false

/-! ### spec_l01Text: function 91 -/
mutual
def spec_l01Text.j0 : Nat → Int → List Int → Int → Int → Option (ByteArray × Int × Int)
 | 0, _, _, _, _ => none
 | k + 1, x1, x1000, x1001, x1002 => spec_l01Text.l0 k x1 (([] : List Int)) 0 x1000 x1001 x1002
def spec_l01Text.l0 : Nat → Int → List Int → Int → List Int → Int → Int → Option (ByteArray × Int × Int)
 | 0, _, _, _, _, _, _ => none
 | k + 1, x1, x5, x6, x1000, x1001, x1002 => if x6 < x1 then ((spec_l01Byte.f x1000 x1001 x1002).bind fun bt418 => (if x5.length < 140737488355328 then (spec_l01Text.l0 k x1 (x5 ++ [(bt418.1) % 256]) (wrap64 (x6 + 1)) x1000 bt418.2.1 bt418.2.2) else (none))) else (some (strOfNums x5, x1001, x1002))
end
def spec_l01Text.f (k : Nat) (s0_0 : List Int) (s0_1 : Int) (s0_2 : Int) (a1 : Int) : Option (ByteArray × Int × Int) := if a1 > 5000 then (spec_l01Text.j0 k 5000 s0_0 s0_1 s0_2) else (spec_l01Text.j0 k a1 s0_0 s0_1 s0_2)
theorem spec_l01Text.mono_l : ∀ k, (∀ y0 y1 y2 y3, LeO (spec_l01Text.j0 k y0 y1 y2 y3) (spec_l01Text.j0 (k + 1) y0 y1 y2 y3)) ∧ (∀ y0 y1 y2 y3 y4 y5, LeO (spec_l01Text.l0 k y0 y1 y2 y3 y4 y5) (spec_l01Text.l0 (k + 1) y0 y1 y2 y3 y4 y5))
 | 0 => ⟨fun _ _ _ _ r h => by simp [spec_l01Text.j0] at h, fun _ _ _ _ _ _ r h => by simp [spec_l01Text.l0] at h⟩
 | k + 1 => by
  obtain ⟨ih0, ih1⟩ := spec_l01Text.mono_l k
  refine ⟨?_, ?_⟩
  ·intro y0 y1 y2 y3
   unfold spec_l01Text.j0
   repeat' first
   | (with_reducible exact ih0 _ _ _ _)
   | (with_reducible exact ih1 _ _ _ _ _ _)
   | (with_reducible exact LeO.refl _)
   | (with_reducible exact LeO.none _)
   | (with_reducible refine LeO.ite ?_ ?_)
   | (with_reducible refine LeO.bind ?_ (fun _ => ?_))
   | exact ih0 _ _ _ _
   | exact ih1 _ _ _ _ _ _
   | exact LeO.none _
   | refine LeO.ite ?_ ?_
   | refine LeO.bind ?_ (fun _ => ?_)
  ·intro y0 y1 y2 y3 y4 y5
   unfold spec_l01Text.l0
   repeat' first
   | (with_reducible exact ih0 _ _ _ _)
   | (with_reducible exact ih1 _ _ _ _ _ _)
   | (with_reducible exact LeO.refl _)
   | (with_reducible exact LeO.none _)
   | (with_reducible refine LeO.ite ?_ ?_)
   | (with_reducible refine LeO.bind ?_ (fun _ => ?_))
   | exact ih0 _ _ _ _
   | exact ih1 _ _ _ _ _ _
   | exact LeO.none _
   | refine LeO.ite ?_ ?_
   | refine LeO.bind ?_ (fun _ => ?_)
theorem spec_l01Text.mono : ∀ a0 a1 a2 a3 k, LeO (spec_l01Text.f k a0 a1 a2 a3) (spec_l01Text.f (k + 1) a0 a1 a2 a3) := by
 intro a0 a1 a2 a3 k
 obtain ⟨ih0, ih1⟩ := spec_l01Text.mono_l k
 unfold spec_l01Text.f
 repeat' first
   | (with_reducible exact ih0 _ _ _ _)
   | (with_reducible exact ih1 _ _ _ _ _ _)
   | (with_reducible exact LeO.refl _)
   | (with_reducible exact LeO.none _)
   | (with_reducible refine LeO.ite ?_ ?_)
   | (with_reducible refine LeO.bind ?_ (fun _ => ?_))
   | exact ih0 _ _ _ _
   | exact ih1 _ _ _ _ _ _
   | exact LeO.none _
   | refine LeO.ite ?_ ?_
   | refine LeO.bind ?_ (fun _ => ?_)
set_option maxHeartbeats 8000000 in
set_option maxRecDepth 100000 in
theorem spec_l01Text.calls (k : Nat) (g : Nat) (s0_0 : List Int) (s0_1 : Int) (s0_2 : Int) (a1 : Int) (r1 : ByteArray) (r2 : Int) (r3 : Int) (w0 w : World) (hI : IsS89 w0 w g s0_0 s0_1 s0_2) (hB : Below w0.heap.size w0 w) (h : spec_l01Text.f k s0_0 s0_1 s0_2 a1 = some (r1, r2, r3)) :
  Calls Try.prog 91 #[.pointer (some ⟨g, 0, none⟩), .int .i64 a1] w fun e w' => e = .returned (.string r1) ∧ IsS89 w0 w' g s0_0 r2 r3 ∧ Below w0.heap.size w0 w' ∧ KeepBut w w' g none := by
 have HI0 := Aside0.mk hI
 have HK := Aside0.mk (KeepBut.refl w g none)
 have HL := Aside0.mk hB.size
 clear hI
 have HW0 := Aside0.mk hB.size
 have HB := Aside0.mk hB
 clear hB
 have H : (if a1 > 5000 then (spec_l01Text.j0 k 5000 s0_0 s0_1 s0_2) else (spec_l01Text.j0 k a1 s0_0 s0_1 s0_2)) = some (r1, r2, r3) := h
 clear h
 have HC3 := Aside0.mk H
 clear H
 go_enter Try.func91, Try.ntmps91
 go_upto_if 8 with (fail)
 go_cut [1] (fun v1 wc => ∃ (kq : Nat) (x1_2 : Int), v1 = .int .i64 x1_2 ∧ Aside0 (spec_l01Text.j0 kq x1_2 s0_0 s0_1 s0_2 = some (r1, r2, r3)) ∧ Aside0 (kq ≤ k) ∧ Aside0 (IsS89 w0 wc g s0_0 s0_1 s0_2) ∧ Aside0 (KeepBut w wc g none) ∧ Aside0 (Below w0.heap.size w0 wc))
 case first =>
  have H := HC3.out
  clear HC3
  by_cases c4 : a1 > 5000
  ·rw [if_pos c4] at H
   have c4b0 : decide (5000 < a1) = true := decide_eq_true c4
   clear c4
   (first | rw [c4b0] | (simp only [i64_w, i32_w]; rw [c4b0]) | rw [c4b1] | skip)
   have H' := Aside0.mk H
   clear H
   go_wp2
   go_meet
   case rel => exact ⟨_, (5000), rS, H', ⟨by first | omega | exact Nat.le_refl _⟩, ⟨by repeat (first | (with_reducible first | exact HI0.out | apply IsS89.alloc | apply IsS89.drewN | apply IsS89.drew | apply IsS89.set_1 | apply IsS89.set_2) | exact HI0.out)⟩, ⟨by repeat (first | (with_reducible first | exact HK.out | apply KeepBut.set_ | apply keep_drewN | apply keep_drew | apply keep_alloc) | exact HK.out)⟩, ⟨by repeat (first | (with_reducible first | exact HB.out | apply below_alloc | apply pw_below_drewN | apply below_drew1 | refine below_set ?_ (IsS89.ge HI0.out)) | exact HB.out)⟩⟩
  ·rw [if_neg c4] at H
   have c4b0 : decide (5000 < a1) = false := decide_eq_false c4
   clear c4
   (first | rw [c4b0] | (simp only [i64_w, i32_w]; rw [c4b0]) | rw [c4b1] | skip)
   have H' := Aside0.mk H
   clear H
   go_wp2
   go_meet
   case rel => exact ⟨_, (a1), rS, H', ⟨by first | omega | exact Nat.le_refl _⟩, ⟨by repeat (first | (with_reducible first | exact HI0.out | apply IsS89.alloc | apply IsS89.drewN | apply IsS89.drew | apply IsS89.set_1 | apply IsS89.set_2) | exact HI0.out)⟩, ⟨by repeat (first | (with_reducible first | exact HK.out | apply KeepBut.set_ | apply keep_drewN | apply keep_drew | apply keep_alloc) | exact HK.out)⟩, ⟨by repeat (first | (with_reducible first | exact HB.out | apply below_alloc | apply pw_below_drewN | apply below_drew1 | refine below_set ?_ (IsS89.ge HI0.out)) | exact HB.out)⟩⟩
 case rest =>
  clear HC3
  try clear p2
  try clear c4
  try clear c4b0
  obtain ⟨kq, x1_2, rfl, HA, HJ2, HI0, HK, HB⟩ := hcut
  cases kq with
  | zero => exact absurd HA.out (by simp [spec_l01Text.j0])
  | succ kj2 =>
   have H := HA.out
   clear HA
   simp only [spec_l01Text.j0] at H
   obtain ⟨y415, hy415⟩ : ∃ y_ : List Int, y_ = (([] : List Int)) := ⟨_, rfl⟩
   replace H : (spec_l01Text.l0 kj2 x1_2 y415 0 s0_0 s0_1 s0_2) = some (r1, r2, r3) := by first | (rw [hy415]; with_reducible exact H) | (have H2_ := (Option.bind_some _ _).symm.trans H; rw [hy415]; with_reducible exact H2_) | (have H2_ := (Option.bind_some _ _).symm.trans H; with_reducible exact H2_) | with_reducible exact H | (rw [hy415]; exact H) | exact H
   have Ny415 := Aside0.mk hy415
   clear hy415
   have H' := Aside0.mk H
   clear H
   go_wp2_with (first | ((with_reducible refine gate_dst (N := 9) rfl ?_); refine Kd.R_lit (Kd.int .u8) _ 5 ?hg (N := 9) ?hd (xs := ([] : List Int)) (inner := []) (ok := fun _ => True) (okp := fun _ => True) ?hr ?hp (fun _ hk => hk) trivial (Below.refl _ _) (Nat.le_refl _) (by simp) ?_; (case hd => rfl); (case hg => rfl); (case hr => first | (go_simp; done) | (go_simp; rfl)); (case hp => exact (Reps.none _ _)); intro v416 w5 ho6 hb hg_ hnew_; clear hg_ hnew_; (first | rw [← Ny415.out] at ho6 | (simp only [Int.reduceToNat] at ho6; rw [← Ny415.out] at ho6)); have HO417 := Aside0.mk (Kd.R_lower ho6 (keep_size (w := w) (g := g) (row := none) (by repeat (first | (with_reducible first | exact HK.out | apply KeepBut.set_ | apply keep_drewN | apply keep_drew | apply keep_alloc) | exact HK.out)))); replace HK := Aside0.mk (KeepBut.trans (by repeat (first | (with_reducible first | exact HK.out | apply KeepBut.set_ | apply keep_drewN | apply keep_drew | apply keep_alloc) | exact HK.out)) (KeepBut.of_below hb g none) (.inl rfl)); replace HB := Aside0.mk (below_step (by repeat (first | (with_reducible first | exact HB.out | apply below_alloc | apply pw_below_drewN | apply below_drew1 | refine below_set ?_ (IsS89.ge HI0.out)) | exact HB.out)) hb); replace HI0 := Aside0.mk (IsS89.below (by repeat (first | (with_reducible first | exact HI0.out | apply IsS89.alloc | apply IsS89.drewN | apply IsS89.drew | apply IsS89.set_1 | apply IsS89.set_2) | exact HI0.out)) hb); clear hb ho6))
   go_loopg [5, 6] kj2 (fun kq v5 v6 w' => ∃ (x5_2 : List Int) (x6_2 : Int) (x1001_2 : Int) (x1002_2 : Int), v6 = .int .i64 x6_2 ∧ Aside0 (spec_l01Text.l0 kq x1_2 x5_2 x6_2 s0_0 x1001_2 x1002_2 = some (r1, r2, r3)) ∧ Aside0 (kq ≤ kj2) ∧ Aside0 (Kd.R (Kd.int .u8) 5 w' w.heap.size (fun _ => True) v5 x5_2) ∧ Aside0 (IsS89 w0 w' g s0_0 x1001_2 x1002_2) ∧ Aside0 (KeepBut w w' g none) ∧ Aside0 (Below w0.heap.size w0 w'))
   case atStart => exact ⟨(y415), (0), (s0_1), (s0_2), rS, H', ⟨Nat.le_refl _⟩, ⟨rP HO417⟩, ⟨by repeat (first | (with_reducible first | exact HI0.out | apply IsS89.alloc | apply IsS89.drewN | apply IsS89.drew | apply IsS89.set_1 | apply IsS89.set_2) | exact HI0.out)⟩, ⟨by repeat (first | (with_reducible first | exact HK.out | apply KeepBut.set_ | apply keep_drewN | apply keep_drew | apply keep_alloc) | exact HK.out)⟩, ⟨by repeat (first | (with_reducible first | exact HB.out | apply below_alloc | apply pw_below_drewN | apply below_drew1 | refine below_set ?_ (IsS89.ge HI0.out)) | exact HB.out)⟩⟩
   case round =>
    clear H'
    try clear p2
    try clear c4
    try clear c4b0
    try clear p2
    obtain ⟨x5_2, x6_2, x1001_2, x1002_2, rfl, HA, HK2, HO_5, HI0, HK, HB⟩ := hrel
    cases gk with
    | zero => exact absurd HA.out (by simp [spec_l01Text.l0])
    | succ k2 =>
     have H := HA.out
     clear HA
     simp only [spec_l01Text.l0] at H
     by_cases c7 : x6_2 < x1_2
     ·rw [if_pos c7] at H
      have c7b0 : decide (x6_2 < x1_2) = true := decide_eq_true c7
      clear c7
      replace H := Option.bind_eq_some_iff.mp H
      obtain ⟨⟨t418, t419, t420⟩, A80, H⟩ := H
      have A8 := Aside0.mk A80
      clear A80
      by_cases c9 : x5_2.length < 140737488355328
      ·rw [if_pos c9] at H
       have LMc9 := Aside0.mk c9
       clear c9
       obtain ⟨y421, hy421⟩ : ∃ y_ : List Int, y_ = (x5_2 ++ [(t418) % 256]) := ⟨_, rfl⟩
       replace H : (spec_l01Text.l0 k2 x1_2 y421 (wrap64 (x6_2 + 1)) s0_0 t419 t420) = some (r1, r2, r3) := by first | (rw [hy421]; with_reducible exact H) | (have H2_ := (Option.bind_some _ _).symm.trans H; rw [hy421]; with_reducible exact H2_) | (have H2_ := (Option.bind_some _ _).symm.trans H; with_reducible exact H2_) | with_reducible exact H | (rw [hy421]; exact H) | exact H
       have Ny421 := Aside0.mk hy421
       clear hy421
       have H' := Aside0.mk H
       clear H
       go_wp2_with (first | ((with_reducible refine gate_callee (f := 61) rfl ?_); refine gL (some 17) Try.func61 #[.pointer (some ⟨g, 0, none⟩)] ?_; (with_reducible refine (spec_l01Byte.calls g s0_0 x1001_2 x1002_2 t418 t419 t420 w0 _ ?side1 ?side2 A8.out).mono ?_); (case side1 => repeat (first | (with_reducible first | exact HI0.out | apply IsS89.alloc | apply IsS89.drewN | apply IsS89.drew | apply IsS89.set_1 | apply IsS89.set_2) | exact HI0.out)); (case side2 => repeat (first | (with_reducible first | exact HB.out | apply below_alloc | apply pw_below_drewN | apply below_drew1 | refine below_set ?_ (IsS89.ge HI0.out)) | exact HB.out)); rintro e w10 ⟨rfl, hi, hb, hk⟩; refine ⟨_, rfl, ?_⟩; replace HO_5 := Aside0.mk (Kd.R_mono (Kd.R_keep (IsS89.apart (show IsS89 w0 _ g s0_0 x1001_2 x1002_2 from by repeat (first | (with_reducible first | exact HI0.out | apply IsS89.alloc | apply IsS89.drewN | apply IsS89.drew | apply IsS89.set_1 | apply IsS89.set_2) | exact HI0.out)) (rP HO_5) (by decide)) hk (fun _ h => h.2)) (fun _ h => h.1)); replace HK := Aside0.mk (KeepBut.trans (by repeat (first | (with_reducible first | exact HK.out | apply KeepBut.set_ | apply keep_drewN | apply keep_drew | apply keep_alloc) | exact HK.out)) hk (.inl rfl)); replace HB := Aside0.mk (hb); replace HI0 := Aside0.mk (hi); (try clear hb)) | ((with_reducible refine gate_builtin (b := .append) (xs := #[.tmp 15, .tmp 19]) rfl ?_); at_builtin; refine Kd.R_append (Kd.int .u8) w.heap.size rfl (.tmp 15) (.tmp 19) 22 5 (.int .u8 0) 1 rfl Try.underlying22 info5 rfl (by decide) (by omega) u5 x5_2 ((t418) % 256) [.int .u8 ((t418) % 256)] (fun _ => True) (fun _ => False) rfl rfl ?aP (fun _ hk => hk.elim) ?aF ?aO (Below.refl _ _) ?aS ?aL ?_; (case aP => exact rfl); (case aF => exact (fun _ _ => trivial)); (case aO => exact (rP HO_5)); (case aS => exact (keep_size (w := w) (g := g) (row := none) (by repeat (first | (with_reducible first | exact HK.out | apply KeepBut.set_ | apply keep_drewN | apply keep_drew | apply keep_alloc) | exact HK.out)))); (case aL => have := LMc9.out; omega); intro v422 w11 ho hb hg hat; rw [← Ny421.out] at ho; replace HB := Aside0.mk (below_weaken (by repeat (first | (with_reducible first | exact HB.out | apply below_alloc | apply pw_below_drewN | apply below_drew1 | refine below_set ?_ (IsS89.ge HI0.out)) | exact HB.out)) HL.out hb); replace HI0 := Aside0.mk (IsS89.grown (by repeat (first | (with_reducible first | exact HI0.out | apply IsS89.alloc | apply IsS89.drewN | apply IsS89.drew | apply IsS89.set_1 | apply IsS89.set_2) | exact HI0.out)) hg (IsS89.own_ne HI0.out HO_5.out (by decide))); replace HK := Aside0.mk (KeepBut.trans (by repeat (first | (with_reducible first | exact HK.out | apply KeepBut.set_ | apply keep_drewN | apply keep_drew | apply keep_alloc) | exact HK.out)) (KeepBut.of_grown hg g) (Kd.R_base2 HO_5.out)); have HO423 := Aside0.mk (ho); clear HO_5; clear ho hb hg hat))
       go_roundg k2
       case measure => have := HJ2.out; have := HK2.out; omega
       case rel => exact ⟨(y421), (wrap64 (x6_2 + 1)), (t419), (t420), rS, H', ⟨by have := HJ2.out; have := HK2.out; omega⟩, ⟨rP HO423⟩, ⟨by repeat (first | (with_reducible first | exact HI0.out | apply IsS89.alloc | apply IsS89.drewN | apply IsS89.drew | apply IsS89.set_1 | apply IsS89.set_2) | exact HI0.out)⟩, ⟨by repeat (first | (with_reducible first | exact HK.out | apply KeepBut.set_ | apply keep_drewN | apply keep_drew | apply keep_alloc) | exact HK.out)⟩, ⟨by repeat (first | (with_reducible first | exact HB.out | apply below_alloc | apply pw_below_drewN | apply below_drew1 | refine below_set ?_ (IsS89.ge HI0.out)) | exact HB.out)⟩⟩
      ·rw [if_neg c9] at H
       exact absurd H (by simp)
     ·rw [if_neg c7] at H
      have c7b0 : decide (x6_2 < x1_2) = false := decide_eq_false c7
      clear c7
      simp only [Option.some.injEq, Prod.mk.injEq] at H
      obtain ⟨rfl, rfl, rfl⟩ := H
      have hcv12 := own_string (P := Try.prog) Try.underlying22 Try.underlying5 Try.underlying9 (Kd.own_of_R HO_5.out)
      go_wp2
      go_ret
      exact ⟨by first | rfl | (simp [errW_none, errW_some] <;> rfl) | (simp [*, errW_none, errW_some] <;> rfl), by repeat (first | (with_reducible first | exact HI0.out | apply IsS89.alloc | apply IsS89.drewN | apply IsS89.drew | apply IsS89.set_1 | apply IsS89.set_2) | exact HI0.out), by repeat (first | (with_reducible first | exact HB.out | apply below_alloc | apply pw_below_drewN | apply below_drew1 | refine below_set ?_ (IsS89.ge HI0.out)) | exact HB.out), by repeat (first | (with_reducible first | exact HK.out | apply KeepBut.set_ | apply keep_drewN | apply keep_drew | apply keep_alloc) | exact HK.out)⟩

end Go.Proofs.Ytmbjefdkjdemhaa.Pf
end
section
namespace Go.Proofs.Ytmbjefdkjdemhaa.Pf
open Go.RowKit Go.Proofs.YtmbjefdkjdemhaaW.PrintWords Go.Proofs.YtmbjefdkjdemhaaW.PrintLast Go.Proofs.YtmbjefdkjdemhaaW.PrintMore
attribute [local go_sem] max2_int min2_int max_two min_two max_three min_three max_four min_four   -- for this text's walks alone
set_option linter.unusedVariables false
set_option linter.unusedSimpArgs false
/-! ### spec_l02Spoilt: function 92 -/
def spec_l02Spoilt.j0 : Nat → ByteArray → Bool → List Int → Int → Int → Option (ByteArray × Int × Int)
 | 0, _, _, _, _, _ => none
 | k + 1, x1, x23, x1000, x1001, x1002 => if x23 = true then (if (x1.size : Int) > 0 then ((spec_l01Below.f x1000 x1001 x1002 (x1.size : Int)).bind fun bt433 => (if 0 ≤ bt433.1 then (if bt433.1 ≤ (x1.size : Int) then ((spec_l01Text.f k x1000 bt433.2.1 bt433.2.2 1).bind fun bt436 => (if (x1.extract 0 (bt433.1 : Int).toNat).size + bt436.1.size ≤ 9223372036854775807 then (if 0 ≤ (wrap64 (bt433.1 + 1)) then (if (wrap64 (bt433.1 + 1)) ≤ (x1.size : Int) then (if ((x1.extract 0 (bt433.1 : Int).toNat) ++ bt436.1).size + (x1.extract ((wrap64 (bt433.1 + 1)) : Int).toNat x1.size).size ≤ 9223372036854775807 then (some (((x1.extract 0 (bt433.1 : Int).toNat) ++ bt436.1) ++ (x1.extract ((wrap64 (bt433.1 + 1)) : Int).toNat x1.size), bt436.2.1, bt436.2.2)) else (none)) else (none)) else (none)) else (none))) else (none)) else (none))) else (some (x1, x1001, x1002))) else (some (x1, x1001, x1002))
def spec_l02Spoilt.f (k : Nat) (s0_0 : List Int) (s0_1 : Int) (s0_2 : Int) (a1 : ByteArray) : Option (ByteArray × Int × Int) := (spec_l01Below.f s0_0 s0_1 s0_2 12).bind fun bt424 => (if bt424.1 = 0 then ((spec_l01Text.f k s0_0 bt424.2.1 bt424.2.2 1).bind fun bt427 => (if a1.size + bt427.1.size ≤ 9223372036854775807 then (some (a1 ++ bt427.1, bt427.2.1, bt427.2.2)) else (none))) else (if bt424.1 = 1 then ((spec_l01Below.f s0_0 bt424.2.1 bt424.2.2 (wrap64 ((a1.size : Int) + 1))).bind fun bt430 => (if 0 ≤ bt430.1 then (if bt430.1 ≤ (a1.size : Int) then (some (a1.extract 0 (bt430.1 : Int).toNat, bt430.2.1, bt430.2.2)) else (none)) else (none))) else (if bt424.1 = 2 then (spec_l02Spoilt.j0 k a1 (bt424.1 == 2) s0_0 bt424.2.1 bt424.2.2) else (spec_l02Spoilt.j0 k a1 (bt424.1 == 3) s0_0 bt424.2.1 bt424.2.2))))
theorem spec_l02Spoilt.mono_l : ∀ k, (∀ y0 y1 y2 y3 y4, LeO (spec_l02Spoilt.j0 k y0 y1 y2 y3 y4) (spec_l02Spoilt.j0 (k + 1) y0 y1 y2 y3 y4))
 | 0 => fun _ _ _ _ _ r h => by simp [spec_l02Spoilt.j0] at h
 | k + 1 => by
  have ih0 := spec_l02Spoilt.mono_l k
  ·intro y0 y1 y2 y3 y4
   unfold spec_l02Spoilt.j0
   repeat' first
   | (with_reducible exact ih0 _ _ _ _ _)
   | (with_reducible exact spec_l01Text.mono _ _ _ _ _)
   | (with_reducible exact LeO.refl _)
   | (with_reducible exact LeO.none _)
   | (with_reducible refine LeO.ite ?_ ?_)
   | (with_reducible refine LeO.bind ?_ (fun _ => ?_))
   | exact ih0 _ _ _ _ _
   | exact spec_l01Text.mono _ _ _ _ _
   | exact LeO.none _
   | refine LeO.ite ?_ ?_
   | refine LeO.bind ?_ (fun _ => ?_)
theorem spec_l02Spoilt.mono : ∀ a0 a1 a2 a3 k, LeO (spec_l02Spoilt.f k a0 a1 a2 a3) (spec_l02Spoilt.f (k + 1) a0 a1 a2 a3) := by
 intro a0 a1 a2 a3 k
 have ih0 := spec_l02Spoilt.mono_l k
 unfold spec_l02Spoilt.f
 repeat' first
   | (with_reducible exact ih0 _ _ _ _ _)
   | (with_reducible exact spec_l01Text.mono _ _ _ _ _)
   | (with_reducible exact LeO.refl _)
   | (with_reducible exact LeO.none _)
   | (with_reducible refine LeO.ite ?_ ?_)
   | (with_reducible refine LeO.bind ?_ (fun _ => ?_))
   | exact ih0 _ _ _ _ _
   | exact spec_l01Text.mono _ _ _ _ _
   | exact LeO.none _
   | refine LeO.ite ?_ ?_
   | refine LeO.bind ?_ (fun _ => ?_)
def spec_l02Spoilt.T10 : Bool × List (List Nat × List Nat) := (true, [([], []), ([], []), ([0, 1], [0, 1]), ([], []), ([3], [3]), ([2, 4], [2, 4]), ([], []), ([], []), ([7], [7]), ([6, 8], [6, 8]), ([5, 9], [5, 9]), ([10, 4, 0, 1, 2, 3, 4, 5, 6, 7, 8, 9, 10], [10])])
def spec_l02Spoilt.B10 : List Nat := [0, 0, 3, 0, 8, 31, 0, 0, 128, 448, 1023, 2047]
theorem spec_l02Spoilt.tab10 : rtab .any (opsOf Try.f92 10) = spec_l02Spoilt.T10 := by kernel_rfl
theorem spec_l02Spoilt.bits10 : waitsOk spec_l02Spoilt.T10.2 spec_l02Spoilt.B10 = true := by kernel_rfl
set_option maxHeartbeats 8000000 in
set_option maxRecDepth 100000 in
theorem spec_l02Spoilt.calls (k : Nat) (g : Nat) (s0_0 : List Int) (s0_1 : Int) (s0_2 : Int) (a1 : ByteArray) (r1 : ByteArray) (r2 : Int) (r3 : Int) (w0 w : World) (hI : IsS89 w0 w g s0_0 s0_1 s0_2) (hB : Below w0.heap.size w0 w) (h : spec_l02Spoilt.f k s0_0 s0_1 s0_2 a1 = some (r1, r2, r3)) :
  Calls Try.prog 92 #[.pointer (some ⟨g, 0, none⟩), .string a1] w fun e w' => e = .returned (.string r1) ∧ IsS89 w0 w' g s0_0 r2 r3 ∧ Below w0.heap.size w0 w' ∧ KeepBut w w' g none := by
 have HI0 := Aside0.mk hI
 have HK := Aside0.mk (KeepBut.refl w g none)
 have HL := Aside0.mk hB.size
 clear hI
 have HW0 := Aside0.mk hB.size
 have HB := Aside0.mk hB
 clear hB
 have H : ((spec_l01Below.f s0_0 s0_1 s0_2 12).bind fun bt424 => (if bt424.1 = 0 then ((spec_l01Text.f k s0_0 bt424.2.1 bt424.2.2 1).bind fun bt427 => (if a1.size + bt427.1.size ≤ 9223372036854775807 then (some (a1 ++ bt427.1, bt427.2.1, bt427.2.2)) else (none))) else (if bt424.1 = 1 then ((spec_l01Below.f s0_0 bt424.2.1 bt424.2.2 (wrap64 ((a1.size : Int) + 1))).bind fun bt430 => (if 0 ≤ bt430.1 then (if bt430.1 ≤ (a1.size : Int) then (some (a1.extract 0 (bt430.1 : Int).toNat, bt430.2.1, bt430.2.2)) else (none)) else (none))) else (if bt424.1 = 2 then (spec_l02Spoilt.j0 k a1 (bt424.1 == 2) s0_0 bt424.2.1 bt424.2.2) else (spec_l02Spoilt.j0 k a1 (bt424.1 == 3) s0_0 bt424.2.1 bt424.2.2))))) = some (r1, r2, r3) := h
 clear h
 replace H := Option.bind_eq_some_iff.mp H
 obtain ⟨⟨t424, t425, t426⟩, A30, H⟩ := H
 have A3 := Aside0.mk A30
 clear A30
 by_cases c4 : t424 = 0
 ·rw [if_pos c4] at H
  have c4b0 : (t424 == 0) = true := beq_iff_eq.mpr c4
  have c4b1 : (t424 != 0) = false := bne_eq_false_iff_eq.mpr c4
  clear c4
  replace H := Option.bind_eq_some_iff.mp H
  obtain ⟨⟨t427, t428, t429⟩, A50, H⟩ := H
  have A5 := Aside0.mk A50
  clear A50
  by_cases c6 : a1.size + t427.size ≤ 9223372036854775807
  ·rw [if_pos c6] at H
   have c6b0 := eq_true c6
   have c6b1 : decide (a1.size + t427.size ≤ 9223372036854775807) = true := decide_eq_true c6
   try have c6b2 : (9223372036854775807 < a1.size + t427.size) = False := eq_false (Nat.not_lt.2 c6)
   try simp only [ByteArray.size_append] at c6b2
   simp only [Option.some.injEq, Prod.mk.injEq] at H
   obtain ⟨rfl, rfl, rfl⟩ := H
   go_enter Try.func92, Try.ntmps92
   go_wp2_with (first | ((with_reducible refine gate_callee (f := 62) rfl ?_); refine gL (some 7) Try.func62 #[.pointer (some ⟨g, 0, none⟩), .int .i64 12] ?_; (with_reducible refine (spec_l01Below.calls g s0_0 s0_1 s0_2 12 t424 t425 t426 w0 _ ?side1 ?side2 A3.out).mono ?_); (case side1 => repeat (first | (with_reducible first | exact HI0.out | apply IsS89.alloc | apply IsS89.drewN | apply IsS89.drew | apply IsS89.set_1 | apply IsS89.set_2) | exact HI0.out)); (case side2 => repeat (first | (with_reducible first | exact HB.out | apply below_alloc | apply pw_below_drewN | apply below_drew1 | refine below_set ?_ (IsS89.ge HI0.out)) | exact HB.out)); rintro e w7 ⟨rfl, hi, hb, hk⟩; refine ⟨_, rfl, ?_⟩; replace HK := Aside0.mk (KeepBut.trans (by repeat (first | (with_reducible first | exact HK.out | apply KeepBut.set_ | apply keep_drewN | apply keep_drew | apply keep_alloc) | exact HK.out)) hk (.inl rfl)); replace HB := Aside0.mk (hb); replace HI0 := Aside0.mk (hi); (try clear hb)) | ((with_reducible refine gate_callee (f := 91) rfl ?_); refine gL (some 12) Try.func91 #[.pointer (some ⟨g, 0, none⟩), .int .i64 1] ?_; (with_reducible refine (spec_l01Text.calls k g s0_0 t425 t426 1 t427 t428 t429 w0 _ ?side1 ?side2 A5.out).mono ?_); (case side1 => repeat (first | (with_reducible first | exact HI0.out | apply IsS89.alloc | apply IsS89.drewN | apply IsS89.drew | apply IsS89.set_1 | apply IsS89.set_2) | exact HI0.out)); (case side2 => repeat (first | (with_reducible first | exact HB.out | apply below_alloc | apply pw_below_drewN | apply below_drew1 | refine below_set ?_ (IsS89.ge HI0.out)) | exact HB.out)); rintro e w8 ⟨rfl, hi, hb, hk⟩; refine ⟨_, rfl, ?_⟩; replace HK := Aside0.mk (KeepBut.trans (by repeat (first | (with_reducible first | exact HK.out | apply KeepBut.set_ | apply keep_drewN | apply keep_drew | apply keep_alloc) | exact HK.out)) hk (.inl rfl)); replace HB := Aside0.mk (hb); replace HI0 := Aside0.mk (hi); (try clear hb)))
   go_ret
   exact ⟨by first | rfl | (simp [errW_none, errW_some] <;> rfl) | (simp [*, errW_none, errW_some] <;> rfl), by repeat (first | (with_reducible first | exact HI0.out | apply IsS89.alloc | apply IsS89.drewN | apply IsS89.drew | apply IsS89.set_1 | apply IsS89.set_2) | exact HI0.out), by repeat (first | (with_reducible first | exact HB.out | apply below_alloc | apply pw_below_drewN | apply below_drew1 | refine below_set ?_ (IsS89.ge HI0.out)) | exact HB.out), by repeat (first | (with_reducible first | exact HK.out | apply KeepBut.set_ | apply keep_drewN | apply keep_drew | apply keep_alloc) | exact HK.out)⟩
  ·rw [if_neg c6] at H
   exact absurd H (by simp)
 ·rw [if_neg c4] at H
  have c4b0 : (t424 == 0) = false := beq_eq_false_iff_ne.mpr c4
  have c4b1 : (t424 != 0) = true := bne_iff_ne.mpr c4
  by_cases c9 : t424 = 1
  ·rw [if_pos c9] at H
   have c9b0 : (t424 == 1) = true := beq_iff_eq.mpr c9
   have c9b1 : (t424 != 1) = false := bne_eq_false_iff_eq.mpr c9
   clear c9
   replace H := Option.bind_eq_some_iff.mp H
   obtain ⟨⟨t430, t431, t432⟩, A100, H⟩ := H
   have A10 := Aside0.mk A100
   clear A100
   by_cases c11 : 0 ≤ t430
   ·rw [if_pos c11] at H
    have c11b0 := eq_true c11
    have c11b1 : decide (0 ≤ t430) = true := decide_eq_true c11
    clear c11
    by_cases c12 : t430 ≤ (a1.size : Int)
    ·rw [if_pos c12] at H
     have c12b0 := eq_true c12
     have c12b1 : decide (t430 ≤ (a1.size : Int)) = true := decide_eq_true c12
     clear c12
     simp only [Option.some.injEq, Prod.mk.injEq] at H
     obtain ⟨rfl, rfl, rfl⟩ := H
     go_enter Try.func92, Try.ntmps92
     go_wp2_with (first | ((with_reducible refine gate_callee (f := 62) rfl ?_); refine gL (some 7) Try.func62 #[.pointer (some ⟨g, 0, none⟩), .int .i64 12] ?_; (with_reducible refine (spec_l01Below.calls g s0_0 s0_1 s0_2 12 t424 t425 t426 w0 _ ?side1 ?side2 A3.out).mono ?_); (case side1 => repeat (first | (with_reducible first | exact HI0.out | apply IsS89.alloc | apply IsS89.drewN | apply IsS89.drew | apply IsS89.set_1 | apply IsS89.set_2) | exact HI0.out)); (case side2 => repeat (first | (with_reducible first | exact HB.out | apply below_alloc | apply pw_below_drewN | apply below_drew1 | refine below_set ?_ (IsS89.ge HI0.out)) | exact HB.out)); rintro e w13 ⟨rfl, hi, hb, hk⟩; refine ⟨_, rfl, ?_⟩; replace HK := Aside0.mk (KeepBut.trans (by repeat (first | (with_reducible first | exact HK.out | apply KeepBut.set_ | apply keep_drewN | apply keep_drew | apply keep_alloc) | exact HK.out)) hk (.inl rfl)); replace HB := Aside0.mk (hb); replace HI0 := Aside0.mk (hi); (try clear hb)) | ((with_reducible refine gate_callee (f := 62) rfl ?_); refine gL (some 21) Try.func62 #[.pointer (some ⟨g, 0, none⟩), .int .i64 (wrap64 ((a1.size : Int) + 1))] ?_; (with_reducible refine (spec_l01Below.calls g s0_0 t425 t426 (wrap64 ((a1.size : Int) + 1)) t430 t431 t432 w0 _ ?side1 ?side2 A10.out).mono ?_); (case side1 => repeat (first | (with_reducible first | exact HI0.out | apply IsS89.alloc | apply IsS89.drewN | apply IsS89.drew | apply IsS89.set_1 | apply IsS89.set_2) | exact HI0.out)); (case side2 => repeat (first | (with_reducible first | exact HB.out | apply below_alloc | apply pw_below_drewN | apply below_drew1 | refine below_set ?_ (IsS89.ge HI0.out)) | exact HB.out)); rintro e w14 ⟨rfl, hi, hb, hk⟩; refine ⟨_, rfl, ?_⟩; replace HK := Aside0.mk (KeepBut.trans (by repeat (first | (with_reducible first | exact HK.out | apply KeepBut.set_ | apply keep_drewN | apply keep_drew | apply keep_alloc) | exact HK.out)) hk (.inl rfl)); replace HB := Aside0.mk (hb); replace HI0 := Aside0.mk (hi); (try clear hb)))
     go_ret
     exact ⟨by first | rfl | (simp [errW_none, errW_some] <;> rfl) | (simp [*, errW_none, errW_some] <;> rfl), by repeat (first | (with_reducible first | exact HI0.out | apply IsS89.alloc | apply IsS89.drewN | apply IsS89.drew | apply IsS89.set_1 | apply IsS89.set_2) | exact HI0.out), by repeat (first | (with_reducible first | exact HB.out | apply below_alloc | apply pw_below_drewN | apply below_drew1 | refine below_set ?_ (IsS89.ge HI0.out)) | exact HB.out), by repeat (first | (with_reducible first | exact HK.out | apply KeepBut.set_ | apply keep_drewN | apply keep_drew | apply keep_alloc) | exact HK.out)⟩
    ·rw [if_neg c12] at H
     exact absurd H (by simp)
   ·rw [if_neg c11] at H
    exact absurd H (by simp)
  ·rw [if_neg c9] at H
   have c9b0 : (t424 == 1) = false := beq_eq_false_iff_ne.mpr c9
   have c9b1 : (t424 != 1) = true := bne_iff_ne.mpr c9
   have HC15 := Aside0.mk H
   clear H
   go_enter Try.func92, Try.ntmps92
   go_upto_if 23 with (first | ((with_reducible refine gate_callee (f := 62) rfl ?_); refine gL (some 7) Try.func62 #[.pointer (some ⟨g, 0, none⟩), .int .i64 12] ?_; (with_reducible refine (spec_l01Below.calls g s0_0 s0_1 s0_2 12 t424 t425 t426 w0 _ ?side1 ?side2 A3.out).mono ?_); (case side1 => repeat (first | (with_reducible first | exact HI0.out | apply IsS89.alloc | apply IsS89.drewN | apply IsS89.drew | apply IsS89.set_1 | apply IsS89.set_2) | exact HI0.out)); (case side2 => repeat (first | (with_reducible first | exact HB.out | apply below_alloc | apply pw_below_drewN | apply below_drew1 | refine below_set ?_ (IsS89.ge HI0.out)) | exact HB.out)); rintro e w16 ⟨rfl, hi, hb, hk⟩; refine ⟨_, rfl, ?_⟩; replace HK := Aside0.mk (KeepBut.trans (by repeat (first | (with_reducible first | exact HK.out | apply KeepBut.set_ | apply keep_drewN | apply keep_drew | apply keep_alloc) | exact HK.out)) hk (.inl rfl)); replace HB := Aside0.mk (hb); replace HI0 := Aside0.mk (hi); (try clear hb)))
   (try simp only [Act.put, List.setIfInBounds_toArray, List.set_cons_zero, List.set_cons_succ])
   go_cut [23] (fun v23 wc => ∃ (kq : Nat) (x23_14 : Bool), v23 = .bool x23_14 ∧ Aside0 (spec_l02Spoilt.j0 kq a1 x23_14 s0_0 t425 t426 = some (r1, r2, r3)) ∧ Aside0 (kq ≤ k) ∧ Aside0 (IsS89 w0 wc g s0_0 t425 t426) ∧ Aside0 (KeepBut w wc g none) ∧ Aside0 (Below w0.heap.size w0 wc))
   case first =>
    have H := HC15.out
    clear HC15
    by_cases c17 : t424 = 2
    ·rw [if_pos c17] at H
     have c17b0 : (t424 == 2) = true := beq_iff_eq.mpr c17
     have c17b1 : (t424 != 2) = false := bne_eq_false_iff_eq.mpr c17
     clear c17
     (first | rw [c17b0] | (simp only [i64_w, i32_w]; rw [c17b0]) | rw [c17b1] | skip)
     have H' := Aside0.mk H
     clear H
     go_wp2
     go_meet
     case rel => exact ⟨_, ((t424 == 2)), rS, H', ⟨by first | omega | exact Nat.le_refl _⟩, ⟨by repeat (first | (with_reducible first | exact HI0.out | apply IsS89.alloc | apply IsS89.drewN | apply IsS89.drew | apply IsS89.set_1 | apply IsS89.set_2) | exact HI0.out)⟩, ⟨by repeat (first | (with_reducible first | exact HK.out | apply KeepBut.set_ | apply keep_drewN | apply keep_drew | apply keep_alloc) | exact HK.out)⟩, ⟨by repeat (first | (with_reducible first | exact HB.out | apply below_alloc | apply pw_below_drewN | apply below_drew1 | refine below_set ?_ (IsS89.ge HI0.out)) | exact HB.out)⟩⟩
    ·rw [if_neg c17] at H
     have c17b0 : (t424 == 2) = false := beq_eq_false_iff_ne.mpr c17
     have c17b1 : (t424 != 2) = true := bne_iff_ne.mpr c17
     (first | rw [c17b0] | (simp only [i64_w, i32_w]; rw [c17b0]) | rw [c17b1] | skip)
     have H' := Aside0.mk H
     clear H
     go_wp2
     go_meet
     case rel => exact ⟨_, ((t424 == 3)), rS, H', ⟨by first | omega | exact Nat.le_refl _⟩, ⟨by repeat (first | (with_reducible first | exact HI0.out | apply IsS89.alloc | apply IsS89.drewN | apply IsS89.drew | apply IsS89.set_1 | apply IsS89.set_2) | exact HI0.out)⟩, ⟨by repeat (first | (with_reducible first | exact HK.out | apply KeepBut.set_ | apply keep_drewN | apply keep_drew | apply keep_alloc) | exact HK.out)⟩, ⟨by repeat (first | (with_reducible first | exact HB.out | apply below_alloc | apply pw_below_drewN | apply below_drew1 | refine below_set ?_ (IsS89.ge HI0.out)) | exact HB.out)⟩⟩
   case rest =>
    clear HC15
    try clear c1
    try clear p2
    try clear c4
    try clear c4b0
    try clear c4b1
    try clear c6
    try clear c6b0
    try clear c6b1
    try clear c6b2
    try clear p6
    try clear c9
    try clear c9b0
    try clear c9b1
    try clear c11
    try clear c11b0
    try clear c11b1
    try clear c12
    try clear c12b0
    try clear c12b1
    try clear c17
    try clear c17b0
    try clear c17b1
    obtain ⟨kq, x23_14, rfl, HA, HJ14, HI0, HK, HB⟩ := hcut
    cases kq with
    | zero => exact absurd HA.out (by simp [spec_l02Spoilt.j0])
    | succ kj14 =>
     have H := HA.out
     clear HA
     simp only [spec_l02Spoilt.j0] at H
     by_cases c18 : x23_14 = true
     ·subst c18
      rw [if_pos rfl] at H
      by_cases c19 : (a1.size : Int) > 0
      ·rw [if_pos c19] at H
       have c19b0 : decide (0 < (a1.size : Int)) = true := decide_eq_true c19
       have c19b1 : decide (0 < a1.size) = true := decide_eq_true (by omega)
       clear c19
       replace H := Option.bind_eq_some_iff.mp H
       obtain ⟨⟨t433, t434, t435⟩, A200, H⟩ := H
       have A20 := Aside0.mk A200
       clear A200
       by_cases c21 : 0 ≤ t433
       ·rw [if_pos c21] at H
        have c21b0 := eq_true c21
        have c21b1 : decide (0 ≤ t433) = true := decide_eq_true c21
        clear c21
        by_cases c22 : t433 ≤ (a1.size : Int)
        ·rw [if_pos c22] at H
         have c22b0 := eq_true c22
         have c22b1 : decide (t433 ≤ (a1.size : Int)) = true := decide_eq_true c22
         clear c22
         replace H := Option.bind_eq_some_iff.mp H
         obtain ⟨⟨t436, t437, t438⟩, A230, H⟩ := H
         have A23 := Aside0.mk A230
         clear A230
         by_cases c24 : (a1.extract 0 (t433 : Int).toNat).size + t436.size ≤ 9223372036854775807
         ·rw [if_pos c24] at H
          have c24b0 := eq_true c24
          have c24b1 : decide ((a1.extract 0 (t433 : Int).toNat).size + t436.size ≤ 9223372036854775807) = true := decide_eq_true c24
          try have c24b2 : (9223372036854775807 < (a1.extract 0 (t433 : Int).toNat).size + t436.size) = False := eq_false (Nat.not_lt.2 c24)
          try simp only [ByteArray.size_append] at c24b2
          try have c24b3 : (9223372036854775807 < (t433 : Int).toNat + t436.size) = False := eq_false (by have := of_eq_true c22b0; have := of_eq_true c21b0;  have h_ := of_eq_true c24b0; simp only [ByteArray.size_append, ByteArray.size_extract] at h_; omega)
          obtain ⟨ji25, hji25⟩ : ∃ j_ : Int, (wrap64 (t433 + 1)) = j_ := ⟨_, rfl⟩
          replace H : (if 0 ≤ (ji25) then (if (ji25) ≤ (a1.size : Int) then (if ((a1.extract 0 (t433 : Int).toNat) ++ t436).size + (a1.extract ((ji25) : Int).toNat a1.size).size ≤ 9223372036854775807 then (some (((a1.extract 0 (t433 : Int).toNat) ++ t436) ++ (a1.extract ((ji25) : Int).toNat a1.size), t437, t438)) else (none)) else (none)) else (none)) = some (r1, r2, r3) := by first | (rw [hji25] at H; exact H) | (simp only [hji25] at H ⊢; exact H)
          (try rw [hji25] at A20)
          (try rw [hji25] at A23)
          have hji25w : (IntKind.i64.wrap (t433 + 1)) = ji25 := (i64_w _).trans hji25
          by_cases c26 : 0 ≤ (ji25)
          ·rw [if_pos c26] at H
           have c26b0 := eq_true c26
           have c26b1 : decide (0 ≤ (ji25)) = true := decide_eq_true c26
           clear c26
           by_cases c27 : (ji25) ≤ (a1.size : Int)
           ·rw [if_pos c27] at H
            have c27b0 := eq_true c27
            have c27b1 : decide ((ji25) ≤ (a1.size : Int)) = true := decide_eq_true c27
            clear c27
            by_cases c28 : ((a1.extract 0 (t433 : Int).toNat) ++ t436).size + (a1.extract ((ji25) : Int).toNat a1.size).size ≤ 9223372036854775807
            ·rw [if_pos c28] at H
             have c28b0 := eq_true c28
             have c28b1 : decide (((a1.extract 0 (t433 : Int).toNat) ++ t436).size + (a1.extract ((ji25) : Int).toNat a1.size).size ≤ 9223372036854775807) = true := decide_eq_true c28
             try have c28b2 : (9223372036854775807 < ((a1.extract 0 (t433 : Int).toNat) ++ t436).size + (a1.extract ((ji25) : Int).toNat a1.size).size) = False := eq_false (Nat.not_lt.2 c28)
             try simp only [ByteArray.size_append] at c28b2
             try have c28b3 : (9223372036854775807 < t433.toNat + t436.size + (a1.size - ((ji25) : Int).toNat)) = False := eq_false (by have := of_eq_true c27b0; have := of_eq_true c26b0; have := of_eq_true c24b0; have := of_eq_true c22b0; have := of_eq_true c21b0;  have h_ := of_eq_true c28b0; simp only [ByteArray.size_append, ByteArray.size_extract] at h_; omega)
             simp only [Option.some.injEq, Prod.mk.injEq] at H
             obtain ⟨rfl, rfl, rfl⟩ := H
             try go_wp2_with (first | ((with_reducible refine gate_callee (f := 62) rfl ?_); refine gL (some 32) Try.func62 #[.pointer (some ⟨g, 0, none⟩), .int .i64 (a1.size : Int)] ?_; (with_reducible refine (spec_l01Below.calls g s0_0 t425 t426 (a1.size : Int) t433 t434 t435 w0 _ ?side1 ?side2 A20.out).mono ?_); (case side1 => repeat (first | (with_reducible first | exact HI0.out | apply IsS89.alloc | apply IsS89.drewN | apply IsS89.drew | apply IsS89.set_1 | apply IsS89.set_2) | exact HI0.out)); (case side2 => repeat (first | (with_reducible first | exact HB.out | apply below_alloc | apply pw_below_drewN | apply below_drew1 | refine below_set ?_ (IsS89.ge HI0.out)) | exact HB.out)); rintro e w29 ⟨rfl, hi, hb, hk⟩; refine ⟨_, rfl, ?_⟩; replace HK := Aside0.mk (KeepBut.trans (by repeat (first | (with_reducible first | exact HK.out | apply KeepBut.set_ | apply keep_drewN | apply keep_drew | apply keep_alloc) | exact HK.out)) hk (.inl rfl)); replace HB := Aside0.mk (hb); replace HI0 := Aside0.mk (hi); (try clear hb)))
             replace HI0 := Aside0.mk (IsS89.drew HI0.out)
             replace HK := Aside0.mk (keep_drew HK.out)
             replace HB := Aside0.mk (below_drew1 HB.out)
             refine start_ (n := 12) (S := fun w' => True) (ds := []) #[false, false, false, false, false, false, false, false, false, false, false, false] (by kernel_rfl) rfl rfl trivial (fun hHeld => ?_); refine with_tabW spec_l02Spoilt.tab10 spec_l02Spoilt.bits10 (fun HT_ HW_ => ?_)
             generalize w29.drew = w30 at HI0 HK HB hHeld ⊢
             refine pI 0 (some 33) HT_.out ?_
             refine pI 1 (some 34) HT_.out ?_
             refine pI 2 (some 35) HT_.out ?_
             refine pI 3 (some 36) HT_.out ?_
             refine pI 6 (some 39) HT_.out ?_
             refine pI 7 (some 40) HT_.out ?_
             refine pI 8 (some 41) HT_.out ?_
             refine pI 9 (some 42) HT_.out ?_
             refine oI 4 (some 37) HT_.out (fun K hK => ?_)
             refine gO Try.func91 #[.pointer (some ⟨g, 0, none⟩), .int .i64 1] ?_
             with_reducible refine (spec_l01Text.calls kj14 g s0_0 t434 t435 1 t436 t437 t438 w0 _ ?side1 ?side2 A23.out).mono ?_
             (case side1 => repeat (first | (with_reducible first | exact HI0.out | apply IsS89.alloc | apply IsS89.drewN | apply IsS89.drew | apply IsS89.set_1 | apply IsS89.set_2) | exact HI0.out))
             (case side2 => repeat (first | (with_reducible first | exact HB.out | apply below_alloc | apply pw_below_drewN | apply below_drew1 | refine below_set ?_ (IsS89.ge HI0.out)) | exact HB.out))
             rintro e w31 ⟨rfl, hi, hb, hk⟩
             refine ⟨_, rfl, ?_⟩
             replace HK := Aside0.mk (KeepBut.trans (by repeat (first | (with_reducible first | exact HK.out | apply KeepBut.set_ | apply keep_drewN | apply keep_drew | apply keep_alloc) | exact HK.out)) hk (.inl rfl))
             replace HB := Aside0.mk (hb)
             replace HI0 := Aside0.mk (hi)
             (try clear hb)
             refine hK.out _ _ trivial (fun hHeld => ?_)
             clear hK K
             refine nO (some 37) ?_
             refine pI 5 (some 38) HT_.out ?_
             refine pI 10 (some 43) HT_.out ?_
             refine pI 11 (some 4) HT_.out ?_
             refine done_ (done_of HT_.out (by kernel_rfl)) ?_
             try go_wp2
             go_ret
             exact ⟨by first | rfl | (simp [errW_none, errW_some] <;> rfl) | (simp only [← hji25]; first | rfl | (simp [errW_none, errW_some] <;> rfl)) | (simp [*, errW_none, errW_some] <;> rfl), by repeat (first | (with_reducible first | exact HI0.out | apply IsS89.alloc | apply IsS89.drewN | apply IsS89.drew | apply IsS89.set_1 | apply IsS89.set_2) | exact HI0.out), by repeat (first | (with_reducible first | exact HB.out | apply below_alloc | apply pw_below_drewN | apply below_drew1 | refine below_set ?_ (IsS89.ge HI0.out)) | exact HB.out), by repeat (first | (with_reducible first | exact HK.out | apply KeepBut.set_ | apply keep_drewN | apply keep_drew | apply keep_alloc) | exact HK.out)⟩
            ·rw [if_neg c28] at H
             exact absurd H (by simp)
           ·rw [if_neg c27] at H
            exact absurd H (by simp)
          ·rw [if_neg c26] at H
           exact absurd H (by simp)
         ·rw [if_neg c24] at H
          exact absurd H (by simp)
        ·rw [if_neg c22] at H
         exact absurd H (by simp)
       ·rw [if_neg c21] at H
        exact absurd H (by simp)
      ·rw [if_neg c19] at H
       have c19b0 : decide (0 < (a1.size : Int)) = false := decide_eq_false c19
       have c19b1 : decide (0 < a1.size) = false := decide_eq_false (by omega)
       clear c19
       simp only [Option.some.injEq, Prod.mk.injEq] at H
       obtain ⟨rfl, rfl, rfl⟩ := H
       go_wp2
       go_ret
       exact ⟨by first | rfl | (simp [errW_none, errW_some] <;> rfl) | (simp [*, errW_none, errW_some] <;> rfl), by repeat (first | (with_reducible first | exact HI0.out | apply IsS89.alloc | apply IsS89.drewN | apply IsS89.drew | apply IsS89.set_1 | apply IsS89.set_2) | exact HI0.out), by repeat (first | (with_reducible first | exact HB.out | apply below_alloc | apply pw_below_drewN | apply below_drew1 | refine below_set ?_ (IsS89.ge HI0.out)) | exact HB.out), by repeat (first | (with_reducible first | exact HK.out | apply KeepBut.set_ | apply keep_drewN | apply keep_drew | apply keep_alloc) | exact HK.out)⟩
     ·replace c18 := Bool.eq_false_iff.mpr c18
      subst c18
      rw [if_neg (show ¬ (false = true) by decide)] at H
      simp only [Option.some.injEq, Prod.mk.injEq] at H
      obtain ⟨rfl, rfl, rfl⟩ := H
      go_wp2
      go_ret
      exact ⟨by first | rfl | (simp [errW_none, errW_some] <;> rfl) | (simp [*, errW_none, errW_some] <;> rfl), by repeat (first | (with_reducible first | exact HI0.out | apply IsS89.alloc | apply IsS89.drewN | apply IsS89.drew | apply IsS89.set_1 | apply IsS89.set_2) | exact HI0.out), by repeat (first | (with_reducible first | exact HB.out | apply below_alloc | apply pw_below_drewN | apply below_drew1 | refine below_set ?_ (IsS89.ge HI0.out)) | exact HB.out), by repeat (first | (with_reducible first | exact HK.out | apply KeepBut.set_ | apply keep_drewN | apply keep_drew | apply keep_alloc) | exact HK.out)⟩
end Go.Proofs.Ytmbjefdkjdemhaa.Pf
end
