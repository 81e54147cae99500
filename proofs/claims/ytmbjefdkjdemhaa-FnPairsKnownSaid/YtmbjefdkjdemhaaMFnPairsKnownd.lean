/- What is proved here: part 4 of 5 of the proof of the given statement FnPairsKnown: the contracts of the Go functions that it reaches, the plain facts on lists and numbers, and (in the last part) the statement itself. No conditions beyond the given ones. -/
import Derived.Test.YtmbjefdkjdemhaaMFnPairsKnownwSlim
import Derived.Test.YtmbjefdkjdemhaaMFnPairsKnowna
import Derived.Test.YtmbjefdkjdemhaaMFnPairsKnownc
import Derived.Test.YtmbjefdkjdemhaaMFnPairsKnownb

section
namespace Go.Proofs.Ytmbjefdkjdemhaa.Pf
open Go.RowKit Go.Proofs.YtmbjefdkjdemhaaW.PrintWords Go.Proofs.YtmbjefdkjdemhaaW.PrintLast Go.Proofs.YtmbjefdkjdemhaaW.PrintMore
attribute [local go_sem] max2_int min2_int max_two min_two max_three min_three max_four min_four   -- for this text's walks alone
set_option linter.unusedVariables false
set_option linter.unusedSimpArgs false
/-! ### spec_l07Pair: function 96 -/
def spec_l07Pair.f (k : Nat) (l0 : List Int) : Option (Int × Int × Bool × Int × Int × Bool) := (spec_l01New.f k l0).bind fun bt483 => ((spec_l01Below.f bt483.1 bt483.2.1 bt483.2.2 5).bind fun bt487 => ((spec_l07Any.f k bt483.1 bt487.2.1 bt487.2.2).bind fun bt490 => (if bt487.1 = 0 then (some (bt490.1, bt490.2.1, bt490.2.2.1, bt490.1, bt490.2.1, bt490.2.2.1)) else (if bt487.1 = 1 then ((spec_PointNeg.f bt490.1 bt490.2.1 bt490.2.2.1).bind fun bt496 => (some (bt490.1, bt490.2.1, bt490.2.2.1, bt496.1, bt496.2.1, bt496.2.2))) else ((spec_l07Any.f k bt483.1 bt490.2.2.2.1 bt490.2.2.2.2).bind fun bt499 => (some (bt490.1, bt490.2.1, bt490.2.2.1, bt499.1, bt499.2.1, bt499.2.2.1)))))))
theorem spec_l07Pair.mono : ∀ a0 k, LeO (spec_l07Pair.f k a0) (spec_l07Pair.f (k + 1) a0) := by
 intro a0 k
 unfold spec_l07Pair.f
 repeat' first
   | (with_reducible exact spec_l01New.mono _ _)
   | (with_reducible exact spec_l07Any.mono _ _ _ _)
   | (with_reducible exact LeO.refl _)
   | (with_reducible exact LeO.none _)
   | (with_reducible refine LeO.ite ?_ ?_)
   | (with_reducible refine LeO.bind ?_ (fun _ => ?_))
   | exact spec_l01New.mono _ _
   | exact spec_l07Any.mono _ _ _ _
   | exact LeO.none _
   | refine LeO.ite ?_ ?_
   | refine LeO.bind ?_ (fun _ => ?_)
set_option maxHeartbeats 8000000 in
set_option maxRecDepth 100000 in
theorem spec_l07Pair.calls (k : Nat) (A0 : Option Addr) (c0 : Nat) (l0 : List Int) (r1 : Int) (r2 : Int) (r3 : Bool) (r4 : Int) (r5 : Int) (r6 : Bool) (w : World) (hr0 : Kd.C (Kd.int .u8) w A0 l0.length l0) (hc0 : l0.length ≤ c0) (h : spec_l07Pair.f k l0 = some (r1, r2, r3, r4, r5, r6)) :
  Calls Try.prog 96 #[.slice A0 l0.length c0] w fun e w' => e = .returned (.tuple #[.agg #[.int .i64 r1, .int .i64 r2, .bool r3], .agg #[.int .i64 r4, .int .i64 r5, .bool r6]]) ∧ Below w.heap.size w w' := by
 have hu25 := Try.underlying25
 have HR0 := Aside0.mk hr0
 have HC0 := Aside0.mk hc0
 clear hr0 hc0
 have HB := Aside0.mk (Below.refl w.heap.size w)
 have H : ((spec_l01New.f k l0).bind fun bt483 => ((spec_l01Below.f bt483.1 bt483.2.1 bt483.2.2 5).bind fun bt487 => ((spec_l07Any.f k bt483.1 bt487.2.1 bt487.2.2).bind fun bt490 => (if bt487.1 = 0 then (some (bt490.1, bt490.2.1, bt490.2.2.1, bt490.1, bt490.2.1, bt490.2.2.1)) else (if bt487.1 = 1 then ((spec_PointNeg.f bt490.1 bt490.2.1 bt490.2.2.1).bind fun bt496 => (some (bt490.1, bt490.2.1, bt490.2.2.1, bt496.1, bt496.2.1, bt496.2.2))) else ((spec_l07Any.f k bt483.1 bt490.2.2.2.1 bt490.2.2.2.2).bind fun bt499 => (some (bt490.1, bt490.2.1, bt490.2.2.1, bt499.1, bt499.2.1, bt499.2.2.1)))))))) = some (r1, r2, r3, r4, r5, r6) := h
 clear h
 replace H := Option.bind_eq_some_iff.mp H
 obtain ⟨⟨t483, t484, t485⟩, A20, H⟩ := H
 have A2 := Aside0.mk A20
 clear A20
 replace H := Option.bind_eq_some_iff.mp H
 obtain ⟨⟨t487, t488, t489⟩, A30, H⟩ := H
 have A3 := Aside0.mk A30
 clear A30
 replace H := Option.bind_eq_some_iff.mp H
 obtain ⟨⟨t490, t491, t492, t493, t494⟩, A40, H⟩ := H
 have A4 := Aside0.mk A40
 clear A40
 by_cases c5 : t487 = 0
 ·rw [if_pos c5] at H
  have c5b0 : (t487 == 0) = true := beq_iff_eq.mpr c5
  have c5b1 : (t487 != 0) = false := bne_eq_false_iff_eq.mpr c5
  clear c5
  simp only [Option.some.injEq, Prod.mk.injEq] at H
  obtain ⟨rfl, rfl, rfl, rfl, rfl, rfl⟩ := H
  go_enter Try.func96, Try.ntmps96
  try go_wp2_with (first | ((with_reducible refine gate_dst (N := 2) rfl ?_); refine bE 2 #[.int .i64 0, .int .i64 0, .bool false] 25 ?_; intro gb481 hg w6 hbox hb; have BK481 := Aside0.mk (hbox); have GW481 := bG HB hg; have GE481 := bG HB hg; replace HB := bS HB hb; clear hb hbox hg) | ((with_reducible refine gate_dst (N := 3) rfl ?_); refine bE 3 #[.int .i64 0, .int .i64 0, .bool false] 25 ?_; intro gb482 hg w7 hbox hb; have BK482 := Aside0.mk (hbox); have GW482 := bG HB hg; have GE482 := bG HB hg; replace HB := bS HB hb; have NB481_482 := bL BK481 hg; have NB482_481 := bR BK481 hg; replace BK481 := bB BK481 hb; clear hb hbox hg) | ((with_reducible refine gate_callee (f := 59) rfl ?_); refine gL (some 8) Try.func59 #[.slice A0 l0.length c0] ?_; (with_reducible refine (spec_l01New.calls k _ _ l0 t483 t484 t485 w _ ?side1 ?side2 ?side3 A2.out).mono ?_); (case side1 => repeat (first | (with_reducible first | exact HB.out | apply below_alloc | apply pw_below_drewN | apply below_drew1 | refine below_set ?_ GE481.out | refine below_set ?_ GE482.out) | exact HB.out)); (case side2 => exact HR0.out); (case side3 => exact HC0.out); rintro e w8 ⟨g486, rfl, hi, hb, hb2⟩; refine ⟨_, rfl, ?_⟩; replace HB := Aside0.mk (hb); have HI486 := Aside0.mk (hi); have NB486_481 := Aside0.mk (IsS89.ne_blk hi (blk_below (bP BK481) hb2) (by decide)); have NB481_486 := Aside0.mk (Ne.symm (IsS89.ne_blk hi (blk_below (bP BK481) hb2) (by decide))); replace BK481 := Aside0.mk (blk_below (bP BK481) hb2); have NB486_482 := Aside0.mk (IsS89.ne_blk hi (blk_below (bP BK482) hb2) (by decide)); have NB482_486 := Aside0.mk (Ne.symm (IsS89.ne_blk hi (blk_below (bP BK482) hb2) (by decide))); replace BK482 := Aside0.mk (blk_below (bP BK482) hb2); (try clear hb)) | ((with_reducible refine gate_callee (f := 62) rfl ?_); refine gL (some 10) Try.func62 #[.pointer (some ⟨g486, 0, none⟩), .int .i64 5] ?_; (with_reducible refine (spec_l01Below.calls g486 t483 t484 t485 5 t487 t488 t489 w _ ?side1 ?side2 A3.out).mono ?_); (case side1 => repeat (first | (with_reducible first | exact HI486.out | apply IsS89.alloc | apply IsS89.drewN | apply IsS89.drew | apply IsS89.set_1 | apply IsS89.set_2 | refine IsS89.far ?_ NB486_481.out _ | refine IsS89.far ?_ NB486_482.out _) | exact HI486.out)); (case side2 => repeat (first | (with_reducible first | exact HB.out | apply below_alloc | apply pw_below_drewN | apply below_drew1 | refine below_set ?_ (IsS89.ge HI486.out) | refine below_set ?_ GE481.out | refine below_set ?_ GE482.out) | exact HB.out)); rintro e w9 ⟨rfl, hi, hb, hk⟩; refine ⟨_, rfl, ?_⟩; replace BK481 := Aside0.mk (KeepBut.blk hk (g' := gb481) (o := .cells #[.int .i64 0, .int .i64 0, .bool false] 25 (0, 0)) (bP BK481) NB481_486.out (by simp)); replace BK482 := Aside0.mk (KeepBut.blk hk (g' := gb482) (o := .cells #[.int .i64 0, .int .i64 0, .bool false] 25 (0, 0)) (bP BK482) NB482_486.out (by simp)); replace HB := Aside0.mk (hb); replace HI486 := Aside0.mk (hi); (try clear hb)) | ((with_reducible refine gate_callee (f := 90) rfl ?_); refine gL (some 12) Try.func90 #[.pointer (some ⟨g486, 0, none⟩)] ?_; (with_reducible refine (spec_l07Any.calls k g486 t483 t488 t489 t490 t491 t492 t493 t494 w _ ?side1 ?side2 A4.out).mono ?_); (case side1 => repeat (first | (with_reducible first | exact HI486.out | apply IsS89.alloc | apply IsS89.drewN | apply IsS89.drew | apply IsS89.set_1 | apply IsS89.set_2 | refine IsS89.far ?_ NB486_481.out _ | refine IsS89.far ?_ NB486_482.out _) | exact HI486.out)); (case side2 => repeat (first | (with_reducible first | exact HB.out | apply below_alloc | apply pw_below_drewN | apply below_drew1 | refine below_set ?_ (IsS89.ge HI486.out) | refine below_set ?_ GE481.out | refine below_set ?_ GE482.out) | exact HB.out)); rintro e w10 ⟨rfl, hi, hb, hk⟩; refine ⟨_, rfl, ?_⟩; replace BK481 := Aside0.mk (KeepBut.blk hk (g' := gb481) (o := .cells #[.int .i64 0, .int .i64 0, .bool false] 25 (0, 0)) (bP BK481) NB481_486.out (by simp)); replace BK482 := Aside0.mk (KeepBut.blk hk (g' := gb482) (o := .cells #[.int .i64 0, .int .i64 0, .bool false] 25 (0, 0)) (bP BK482) NB482_486.out (by simp)); replace HB := Aside0.mk (hb); replace HI486 := Aside0.mk (hi); (try clear hb)) | ((with_reducible refine gate_dst (N := 6) rfl ?_); refine bE 6 #[.int .i64 0, .int .i64 0, .bool false] 25 ?_; intro gb495 hg w11 hbox hb; have BK495 := Aside0.mk (hbox); have GW495 := Aside0.mk ((by rw [hg]; exact (below_size (by repeat (first | (with_reducible first | exact HB.out | apply below_alloc | apply pw_below_drewN | apply below_drew1 | refine below_set ?_ (IsS89.ge HI486.out) | refine below_set ?_ GE481.out | refine below_set ?_ GE482.out) | exact HB.out))) : w.heap.size ≤ gb495)); have GE495 := Aside0.mk ((by rw [hg]; exact (below_size (by repeat (first | (with_reducible first | exact HB.out | apply below_alloc | apply pw_below_drewN | apply below_drew1 | refine below_set ?_ (IsS89.ge HI486.out) | refine below_set ?_ GE481.out | refine below_set ?_ GE482.out) | exact HB.out))) : w.heap.size ≤ gb495)); replace HB := Aside0.mk (below_step (by repeat (first | (with_reducible first | exact HB.out | apply below_alloc | apply pw_below_drewN | apply below_drew1 | refine below_set ?_ (IsS89.ge HI486.out) | refine below_set ?_ GE481.out | refine below_set ?_ GE482.out) | exact HB.out)) hb); have NB481_495 := bL BK481 hg; have NB495_481 := bR BK481 hg; replace BK481 := bB BK481 hb; have NB482_495 := bL BK482 hg; have NB495_482 := bR BK482 hg; replace BK482 := bB BK482 hb; have NB486_495 := Aside0.mk ((by rw [hg]; exact Nat.ne_of_lt (IsS89.lt (show IsS89 w _ g486 t483 t493 t494 from by repeat (first | (with_reducible first | exact HI486.out | apply IsS89.alloc | apply IsS89.drewN | apply IsS89.drew | apply IsS89.set_1 | apply IsS89.set_2 | refine IsS89.far ?_ NB486_481.out _ | refine IsS89.far ?_ NB486_482.out _) | exact HI486.out))) : g486 ≠ gb495)); have NB495_486 := Aside0.mk ((by rw [hg]; exact Nat.ne_of_gt (IsS89.lt (show IsS89 w _ g486 t483 t493 t494 from by repeat (first | (with_reducible first | exact HI486.out | apply IsS89.alloc | apply IsS89.drewN | apply IsS89.drew | apply IsS89.set_1 | apply IsS89.set_2 | refine IsS89.far ?_ NB486_481.out _ | refine IsS89.far ?_ NB486_482.out _) | exact HI486.out))) : gb495 ≠ g486)); replace HI486 := Aside0.mk (IsS89.below (by repeat (first | (with_reducible first | exact HI486.out | apply IsS89.alloc | apply IsS89.drewN | apply IsS89.drew | apply IsS89.set_1 | apply IsS89.set_2 | refine IsS89.far ?_ NB486_481.out _ | refine IsS89.far ?_ NB486_482.out _) | exact HI486.out)) hb); clear hb hbox hg; obtain ⟨hnb12, hnc12⟩ := nB NB495_481; obtain ⟨hnb13, hnc13⟩ := nB NB495_482; obtain ⟨hnb14, hnc14⟩ := nB NB495_486; obtain ⟨hcz15_0, hcz15_1, hcz15_2, hfz15_0, hfz15_1, hfz15_2⟩ := bK3 (w := w11) BK495))
  obtain ⟨w16, hW_⟩ : ∃ W_ : World, W_ = (((w11.setCell ⟨gb495, 0, none⟩ (.int .i64 t490)).setCell ⟨gb495, 1, none⟩ (.int .i64 t491)).setCell ⟨gb495, 2, none⟩ (.bool t492)) := ⟨_, rfl⟩
  replace BK481 := bW hW_ BK481
  replace BK482 := bW hW_ BK482
  replace BK495 := bX hW_ 25 #[.int .i64 t490, .int .i64 t491, .bool t492] BK495
  have n3_ : Aside0 (IsS89 w (((w11.setCell ⟨gb495, 0, none⟩ (.int .i64 t490)).setCell ⟨gb495, 1, none⟩ (.int .i64 t491)).setCell ⟨gb495, 2, none⟩ (.bool t492)) g486 t483 t493 t494) := ⟨by repeat (first | (with_reducible first | exact HI486.out | apply IsS89.alloc | apply IsS89.drewN | apply IsS89.drew | apply IsS89.set_1 | apply IsS89.set_2 | refine IsS89.far ?_ NB486_481.out _ | refine IsS89.far ?_ NB486_482.out _ | refine IsS89.far ?_ NB486_495.out _) | exact HI486.out)⟩
  rw [← hW_] at n3_
  have n4_ : Aside0 (Below w.heap.size w (((w11.setCell ⟨gb495, 0, none⟩ (.int .i64 t490)).setCell ⟨gb495, 1, none⟩ (.int .i64 t491)).setCell ⟨gb495, 2, none⟩ (.bool t492))) := ⟨by repeat (first | (with_reducible first | exact HB.out | apply below_alloc | apply pw_below_drewN | apply below_drew1 | refine below_set ?_ (IsS89.ge HI486.out) | refine below_set ?_ GE481.out | refine below_set ?_ GE482.out | refine below_set ?_ GE495.out) | exact HB.out)⟩
  rw [← hW_] at n4_
  (try clear HI486)
  (try clear HB)
  have HI486 := n3_
  clear n3_
  have HB := n4_
  clear n4_
  rw [← hW_]
  clear hW_
  replace BK481 := Aside0.mk (blk_drew BK481.out)
  replace BK482 := Aside0.mk (blk_drew BK482.out)
  replace BK495 := Aside0.mk (blk_drew BK495.out)
  replace HI486 := Aside0.mk (IsS89.drew HI486.out)
  replace HB := Aside0.mk (below_drew1 HB.out)
  refine start_ (n := 4) (S := fun w' => SQ3 w' gb495 (.int .i64 t490) (.int .i64 t491) (.bool t492)) (ds := []) #[false, false, false, false] (by kernel_rfl) rfl rfl (bT3 BK495) (fun hHeld => ?_)
  generalize w16.drew = w17 at BK481 BK482 BK495 HI486 HB hHeld ⊢
  refine take_ (i := 0) (N := some 16) (v := ?_) (a' := ?_) #[true, false, false, false] rfl rfl (by kernel_rfl) (fun _ _ _ h => h) (Or.inl ⟨by rfl, ?_⟩) hHeld ?_ ?_
  rotate_left
  ·rintro w' ⟨s0, s1, s2⟩
   go_simp
   with_reducible rfl
  rotate_left
  ·simp only [Act.put, List.setIfInBounds_toArray, List.set_cons_zero, List.set_cons_succ, i64_w, i32_w]
   rfl
  refine take_ (i := 1) (N := some 17) (v := ?_) (a' := ?_) #[true, true, false, false] rfl rfl (by kernel_rfl) (fun _ _ _ h => h) (Or.inl ⟨by rfl, ?_⟩) hHeld ?_ ?_
  rotate_left
  ·rintro w' ⟨s0, s1, s2⟩
   go_simp
   with_reducible rfl
  rotate_left
  ·simp only [Act.put, List.setIfInBounds_toArray, List.set_cons_zero, List.set_cons_succ, i64_w, i32_w]
   rfl
  refine one_ (i := 2) (N := none) #[true, true, true, false] rfl rfl (by kernel_rfl) (by decide) (fun K hK => ?_)
  have hs18 : w17.cell? ⟨gb481, 0, none⟩ = some (.int .i64 0) := bc BK481 0
  have hfs18 := blk_frozen BK481.out 0
  have hns18_1 := NB482_481.out
  have hns18_2 := NB495_481.out
  have hms18_1 := NB481_482.out
  have hms18_2 := NB481_495.out
  have hs19 : w17.cell? ⟨gb481, 1, none⟩ = some (.int .i64 0) := bc BK481 1
  have hfs19 := blk_frozen BK481.out 1
  have hns19_1 := NB482_481.out
  have hns19_2 := NB495_481.out
  have hms19_1 := NB481_482.out
  have hms19_2 := NB481_495.out
  have hs20 : w17.cell? ⟨gb481, 2, none⟩ = some (.bool false) := bc BK481 2
  have hfs20 := blk_frozen BK481.out 2
  have hns20_1 := NB482_481.out
  have hns20_2 := NB495_481.out
  have hms20_1 := NB481_482.out
  have hms20_2 := NB481_495.out
  refine skip_ (w1 := ?_) (by rfl) rfl ?_ ?_
  rotate_left
  ·go_simp
   rfl
  refine hK.out _ _ ⟨((cell_far (p := ⟨gb481, _, none⟩) NB495_481.out _).trans (((cell_far (p := ⟨gb481, _, none⟩) NB495_481.out _).trans (((cell_far (p := ⟨gb481, _, none⟩) NB495_481.out _).trans (hHeld.1)))))), ((cell_far (p := ⟨gb481, _, none⟩) NB495_481.out _).trans (((cell_far (p := ⟨gb481, _, none⟩) NB495_481.out _).trans (((cell_far (p := ⟨gb481, _, none⟩) NB495_481.out _).trans (hHeld.2.1)))))), ((cell_far (p := ⟨gb481, _, none⟩) NB495_481.out _).trans (((cell_far (p := ⟨gb481, _, none⟩) NB495_481.out _).trans (((cell_far (p := ⟨gb481, _, none⟩) NB495_481.out _).trans (hHeld.2.2))))))⟩ (fun hHeld => ?_)
  clear hK K
  refine one_ (i := 3) (N := none) #[true, true, true, true] rfl rfl (by kernel_rfl) (by decide) (fun K hK => ?_)
  have hs21 : w17.cell? ⟨gb482, 0, none⟩ = some (.int .i64 0) := bc BK482 0
  have hfs21 := blk_frozen BK482.out 0
  have hns21_0 := NB481_482.out
  have hns21_2 := NB495_482.out
  have hms21_0 := NB482_481.out
  have hms21_2 := NB482_495.out
  have hs22 : w17.cell? ⟨gb482, 1, none⟩ = some (.int .i64 0) := bc BK482 1
  have hfs22 := blk_frozen BK482.out 1
  have hns22_0 := NB481_482.out
  have hns22_2 := NB495_482.out
  have hms22_0 := NB482_481.out
  have hms22_2 := NB482_495.out
  have hs23 : w17.cell? ⟨gb482, 2, none⟩ = some (.bool false) := bc BK482 2
  have hfs23 := blk_frozen BK482.out 2
  have hns23_0 := NB481_482.out
  have hns23_2 := NB495_482.out
  have hms23_0 := NB482_481.out
  have hms23_2 := NB482_495.out
  refine skip_ (w1 := ?_) (by rfl) rfl ?_ ?_
  rotate_left
  ·go_simp
   rfl
  refine hK.out _ _ ⟨((cell_far (p := ⟨gb482, _, none⟩) NB495_482.out _).trans (((cell_far (p := ⟨gb482, _, none⟩) NB495_482.out _).trans (((cell_far (p := ⟨gb482, _, none⟩) NB495_482.out _).trans (hHeld.1)))))), ((cell_far (p := ⟨gb482, _, none⟩) NB495_482.out _).trans (((cell_far (p := ⟨gb482, _, none⟩) NB495_482.out _).trans (((cell_far (p := ⟨gb482, _, none⟩) NB495_482.out _).trans (hHeld.2.1)))))), ((cell_far (p := ⟨gb482, _, none⟩) NB495_482.out _).trans (((cell_far (p := ⟨gb482, _, none⟩) NB495_482.out _).trans (((cell_far (p := ⟨gb482, _, none⟩) NB495_482.out _).trans (hHeld.2.2))))))⟩ (fun hHeld => ?_)
  clear hK K
  refine done_ (by kernel_rfl) ?_
  try go_wp2
  refine bodyPost_ret (results_cc rfl _ _ gb481 gb482 25 25 #[.int .i64 t490, .int .i64 t491, .bool t492] #[.int .i64 t490, .int .i64 t491, .bool t492] (0, 0) (0, 0) _ _ rfl (bU BK481) Try.underlying25 rfl (by kernel_rfl) rfl (bU BK482) Try.underlying25 rfl (by kernel_rfl)) rfl ?_
  exact ⟨by first | rfl | (simp [errW_none, errW_some] <;> rfl) | (simp [*, errW_none, errW_some] <;> rfl), by repeat (first | (with_reducible first | exact HB.out | apply below_alloc | apply pw_below_drewN | apply below_drew1 | refine below_set ?_ (IsS89.ge HI486.out) | refine below_set ?_ GE481.out | refine below_set ?_ GE482.out | refine below_set ?_ GE495.out) | exact HB.out)⟩
 ·rw [if_neg c5] at H
  have c5b0 : (t487 == 0) = false := beq_eq_false_iff_ne.mpr c5
  have c5b1 : (t487 != 0) = true := bne_iff_ne.mpr c5
  by_cases c24 : t487 = 1
  ·rw [if_pos c24] at H
   have c24b0 : (t487 == 1) = true := beq_iff_eq.mpr c24
   have c24b1 : (t487 != 1) = false := bne_eq_false_iff_eq.mpr c24
   clear c24
   replace H := Option.bind_eq_some_iff.mp H
   obtain ⟨⟨t496, t497, t498⟩, A250, H⟩ := H
   have A25 := Aside0.mk A250
   clear A250
   simp only [Option.some.injEq, Prod.mk.injEq] at H
   obtain ⟨rfl, rfl, rfl, rfl, rfl, rfl⟩ := H
   go_enter Try.func96, Try.ntmps96
   try go_wp2_with (first | ((with_reducible refine gate_dst (N := 2) rfl ?_); refine bE 2 #[.int .i64 0, .int .i64 0, .bool false] 25 ?_; intro gb481 hg w26 hbox hb; have BK481 := Aside0.mk (hbox); have GW481 := bG HB hg; have GE481 := bG HB hg; replace HB := bS HB hb; clear hb hbox hg) | ((with_reducible refine gate_dst (N := 3) rfl ?_); refine bE 3 #[.int .i64 0, .int .i64 0, .bool false] 25 ?_; intro gb482 hg w27 hbox hb; have BK482 := Aside0.mk (hbox); have GW482 := bG HB hg; have GE482 := bG HB hg; replace HB := bS HB hb; have NB481_482 := bL BK481 hg; have NB482_481 := bR BK481 hg; replace BK481 := bB BK481 hb; clear hb hbox hg) | ((with_reducible refine gate_callee (f := 59) rfl ?_); refine gL (some 8) Try.func59 #[.slice A0 l0.length c0] ?_; (with_reducible refine (spec_l01New.calls k _ _ l0 t483 t484 t485 w _ ?side1 ?side2 ?side3 A2.out).mono ?_); (case side1 => repeat (first | (with_reducible first | exact HB.out | apply below_alloc | apply pw_below_drewN | apply below_drew1 | refine below_set ?_ GE481.out | refine below_set ?_ GE482.out) | exact HB.out)); (case side2 => exact HR0.out); (case side3 => exact HC0.out); rintro e w28 ⟨g486, rfl, hi, hb, hb2⟩; refine ⟨_, rfl, ?_⟩; replace HB := Aside0.mk (hb); have HI486 := Aside0.mk (hi); have NB486_481 := Aside0.mk (IsS89.ne_blk hi (blk_below (bP BK481) hb2) (by decide)); have NB481_486 := Aside0.mk (Ne.symm (IsS89.ne_blk hi (blk_below (bP BK481) hb2) (by decide))); replace BK481 := Aside0.mk (blk_below (bP BK481) hb2); have NB486_482 := Aside0.mk (IsS89.ne_blk hi (blk_below (bP BK482) hb2) (by decide)); have NB482_486 := Aside0.mk (Ne.symm (IsS89.ne_blk hi (blk_below (bP BK482) hb2) (by decide))); replace BK482 := Aside0.mk (blk_below (bP BK482) hb2); (try clear hb)) | ((with_reducible refine gate_callee (f := 62) rfl ?_); refine gL (some 10) Try.func62 #[.pointer (some ⟨g486, 0, none⟩), .int .i64 5] ?_; (with_reducible refine (spec_l01Below.calls g486 t483 t484 t485 5 t487 t488 t489 w _ ?side1 ?side2 A3.out).mono ?_); (case side1 => repeat (first | (with_reducible first | exact HI486.out | apply IsS89.alloc | apply IsS89.drewN | apply IsS89.drew | apply IsS89.set_1 | apply IsS89.set_2 | refine IsS89.far ?_ NB486_481.out _ | refine IsS89.far ?_ NB486_482.out _) | exact HI486.out)); (case side2 => repeat (first | (with_reducible first | exact HB.out | apply below_alloc | apply pw_below_drewN | apply below_drew1 | refine below_set ?_ (IsS89.ge HI486.out) | refine below_set ?_ GE481.out | refine below_set ?_ GE482.out) | exact HB.out)); rintro e w29 ⟨rfl, hi, hb, hk⟩; refine ⟨_, rfl, ?_⟩; replace BK481 := Aside0.mk (KeepBut.blk hk (g' := gb481) (o := .cells #[.int .i64 0, .int .i64 0, .bool false] 25 (0, 0)) (bP BK481) NB481_486.out (by simp)); replace BK482 := Aside0.mk (KeepBut.blk hk (g' := gb482) (o := .cells #[.int .i64 0, .int .i64 0, .bool false] 25 (0, 0)) (bP BK482) NB482_486.out (by simp)); replace HB := Aside0.mk (hb); replace HI486 := Aside0.mk (hi); (try clear hb)) | ((with_reducible refine gate_callee (f := 90) rfl ?_); refine gL (some 12) Try.func90 #[.pointer (some ⟨g486, 0, none⟩)] ?_; (with_reducible refine (spec_l07Any.calls k g486 t483 t488 t489 t490 t491 t492 t493 t494 w _ ?side1 ?side2 A4.out).mono ?_); (case side1 => repeat (first | (with_reducible first | exact HI486.out | apply IsS89.alloc | apply IsS89.drewN | apply IsS89.drew | apply IsS89.set_1 | apply IsS89.set_2 | refine IsS89.far ?_ NB486_481.out _ | refine IsS89.far ?_ NB486_482.out _) | exact HI486.out)); (case side2 => repeat (first | (with_reducible first | exact HB.out | apply below_alloc | apply pw_below_drewN | apply below_drew1 | refine below_set ?_ (IsS89.ge HI486.out) | refine below_set ?_ GE481.out | refine below_set ?_ GE482.out) | exact HB.out)); rintro e w30 ⟨rfl, hi, hb, hk⟩; refine ⟨_, rfl, ?_⟩; replace BK481 := Aside0.mk (KeepBut.blk hk (g' := gb481) (o := .cells #[.int .i64 0, .int .i64 0, .bool false] 25 (0, 0)) (bP BK481) NB481_486.out (by simp)); replace BK482 := Aside0.mk (KeepBut.blk hk (g' := gb482) (o := .cells #[.int .i64 0, .int .i64 0, .bool false] 25 (0, 0)) (bP BK482) NB482_486.out (by simp)); replace HB := Aside0.mk (hb); replace HI486 := Aside0.mk (hi); (try clear hb)) | ((with_reducible refine gate_dst (N := 6) rfl ?_); refine bE 6 #[.int .i64 0, .int .i64 0, .bool false] 25 ?_; intro gb495 hg w31 hbox hb; have BK495 := Aside0.mk (hbox); have GW495 := Aside0.mk ((by rw [hg]; exact (below_size (by repeat (first | (with_reducible first | exact HB.out | apply below_alloc | apply pw_below_drewN | apply below_drew1 | refine below_set ?_ (IsS89.ge HI486.out) | refine below_set ?_ GE481.out | refine below_set ?_ GE482.out) | exact HB.out))) : w.heap.size ≤ gb495)); have GE495 := Aside0.mk ((by rw [hg]; exact (below_size (by repeat (first | (with_reducible first | exact HB.out | apply below_alloc | apply pw_below_drewN | apply below_drew1 | refine below_set ?_ (IsS89.ge HI486.out) | refine below_set ?_ GE481.out | refine below_set ?_ GE482.out) | exact HB.out))) : w.heap.size ≤ gb495)); replace HB := Aside0.mk (below_step (by repeat (first | (with_reducible first | exact HB.out | apply below_alloc | apply pw_below_drewN | apply below_drew1 | refine below_set ?_ (IsS89.ge HI486.out) | refine below_set ?_ GE481.out | refine below_set ?_ GE482.out) | exact HB.out)) hb); have NB481_495 := bL BK481 hg; have NB495_481 := bR BK481 hg; replace BK481 := bB BK481 hb; have NB482_495 := bL BK482 hg; have NB495_482 := bR BK482 hg; replace BK482 := bB BK482 hb; have NB486_495 := Aside0.mk ((by rw [hg]; exact Nat.ne_of_lt (IsS89.lt (show IsS89 w _ g486 t483 t493 t494 from by repeat (first | (with_reducible first | exact HI486.out | apply IsS89.alloc | apply IsS89.drewN | apply IsS89.drew | apply IsS89.set_1 | apply IsS89.set_2 | refine IsS89.far ?_ NB486_481.out _ | refine IsS89.far ?_ NB486_482.out _) | exact HI486.out))) : g486 ≠ gb495)); have NB495_486 := Aside0.mk ((by rw [hg]; exact Nat.ne_of_gt (IsS89.lt (show IsS89 w _ g486 t483 t493 t494 from by repeat (first | (with_reducible first | exact HI486.out | apply IsS89.alloc | apply IsS89.drewN | apply IsS89.drew | apply IsS89.set_1 | apply IsS89.set_2 | refine IsS89.far ?_ NB486_481.out _ | refine IsS89.far ?_ NB486_482.out _) | exact HI486.out))) : gb495 ≠ g486)); replace HI486 := Aside0.mk (IsS89.below (by repeat (first | (with_reducible first | exact HI486.out | apply IsS89.alloc | apply IsS89.drewN | apply IsS89.drew | apply IsS89.set_1 | apply IsS89.set_2 | refine IsS89.far ?_ NB486_481.out _ | refine IsS89.far ?_ NB486_482.out _) | exact HI486.out)) hb); clear hb hbox hg; obtain ⟨hnb32, hnc32⟩ := nB NB495_481; obtain ⟨hnb33, hnc33⟩ := nB NB495_482; obtain ⟨hnb34, hnc34⟩ := nB NB495_486; obtain ⟨hcz35_0, hcz35_1, hcz35_2, hfz35_0, hfz35_1, hfz35_2⟩ := bK3 (w := w31) BK495))
   obtain ⟨w36, hW_⟩ : ∃ W_ : World, W_ = (((w31.setCell ⟨gb495, 0, none⟩ (.int .i64 t490)).setCell ⟨gb495, 1, none⟩ (.int .i64 t491)).setCell ⟨gb495, 2, none⟩ (.bool t492)) := ⟨_, rfl⟩
   replace BK481 := bW hW_ BK481
   replace BK482 := bW hW_ BK482
   replace BK495 := bX hW_ 25 #[.int .i64 t490, .int .i64 t491, .bool t492] BK495
   have n3_ : Aside0 (IsS89 w (((w31.setCell ⟨gb495, 0, none⟩ (.int .i64 t490)).setCell ⟨gb495, 1, none⟩ (.int .i64 t491)).setCell ⟨gb495, 2, none⟩ (.bool t492)) g486 t483 t493 t494) := ⟨by repeat (first | (with_reducible first | exact HI486.out | apply IsS89.alloc | apply IsS89.drewN | apply IsS89.drew | apply IsS89.set_1 | apply IsS89.set_2 | refine IsS89.far ?_ NB486_481.out _ | refine IsS89.far ?_ NB486_482.out _ | refine IsS89.far ?_ NB486_495.out _) | exact HI486.out)⟩
   rw [← hW_] at n3_
   have n4_ : Aside0 (Below w.heap.size w (((w31.setCell ⟨gb495, 0, none⟩ (.int .i64 t490)).setCell ⟨gb495, 1, none⟩ (.int .i64 t491)).setCell ⟨gb495, 2, none⟩ (.bool t492))) := ⟨by repeat (first | (with_reducible first | exact HB.out | apply below_alloc | apply pw_below_drewN | apply below_drew1 | refine below_set ?_ (IsS89.ge HI486.out) | refine below_set ?_ GE481.out | refine below_set ?_ GE482.out | refine below_set ?_ GE495.out) | exact HB.out)⟩
   rw [← hW_] at n4_
   (try clear HI486)
   (try clear HB)
   have HI486 := n3_
   clear n3_
   have HB := n4_
   clear n4_
   rw [← hW_]
   clear hW_
   replace BK481 := Aside0.mk (blk_drew BK481.out)
   replace BK482 := Aside0.mk (blk_drew BK482.out)
   replace BK495 := Aside0.mk (blk_drew BK495.out)
   replace HI486 := Aside0.mk (IsS89.drew HI486.out)
   replace HB := Aside0.mk (below_drew1 HB.out)
   refine start_ (n := 5) (S := fun w' => SQ3 w' gb495 (.int .i64 t490) (.int .i64 t491) (.bool t492)) (ds := []) #[false, false, false, false, false] (by kernel_rfl) rfl rfl (bT3 BK495) (fun hHeld => ?_)
   generalize w36.drew = w37 at BK481 BK482 BK495 HI486 HB hHeld ⊢
   refine take_ (i := 0) (N := some 20) (v := ?_) (a' := ?_) #[true, false, false, false, false] rfl rfl (by kernel_rfl) (fun _ _ _ h => h) (Or.inl ⟨by rfl, ?_⟩) hHeld ?_ ?_
   rotate_left
   ·rintro w' ⟨s0, s1, s2⟩
    go_simp
    with_reducible rfl
   rotate_left
   ·simp only [Act.put, List.setIfInBounds_toArray, List.set_cons_zero, List.set_cons_succ, i64_w, i32_w]
    rfl
   refine take_ (i := 1) (N := some 21) (v := ?_) (a' := ?_) #[true, true, false, false, false] rfl rfl (by kernel_rfl) (fun _ _ _ h => h) (Or.inl ⟨by rfl, ?_⟩) hHeld ?_ ?_
   rotate_left
   ·rintro w' ⟨s0, s1, s2⟩
    go_simp
    with_reducible rfl
   rotate_left
   ·simp only [Act.put, List.setIfInBounds_toArray, List.set_cons_zero, List.set_cons_succ, i64_w, i32_w]
    rfl
   refine one_ (i := 2) (N := some 22) #[true, true, true, false, false] rfl rfl (by kernel_rfl) (by decide) (fun K hK => ?_)
   refine gO Try.func79 #[.agg #[.int .i64 t490, .int .i64 t491, .bool t492]] ?_
   with_reducible refine (spec_PointNeg.calls t490 t491 t492 t496 t497 t498 _ A25.out).mono ?_
   rintro e w38 ⟨rfl, hb⟩
   refine ⟨_, rfl, ?_⟩
   replace BK481 := bB BK481 hb
   replace BK482 := bB BK482 hb
   replace BK495 := bB BK495 hb
   replace HB := Aside0.mk (below_step (by repeat (first | (with_reducible first | exact HB.out | apply below_alloc | apply pw_below_drewN | apply below_drew1 | refine below_set ?_ (IsS89.ge HI486.out) | refine below_set ?_ GE481.out | refine below_set ?_ GE482.out | refine below_set ?_ GE495.out) | exact HB.out)) hb)
   replace HI486 := Aside0.mk (IsS89.below (by repeat (first | (with_reducible first | exact HI486.out | apply IsS89.alloc | apply IsS89.drewN | apply IsS89.drew | apply IsS89.set_1 | apply IsS89.set_2 | refine IsS89.far ?_ NB486_481.out _ | refine IsS89.far ?_ NB486_482.out _ | refine IsS89.far ?_ NB486_495.out _) | exact HI486.out)) hb)
   (try clear hb)
   refine hK.out _ _ (bT3 BK495) (fun hHeld => ?_)
   clear hK K
   refine nO (some 22) ?_
   refine one_ (i := 3) (N := none) #[true, true, true, true, false] rfl rfl (by kernel_rfl) (by decide) (fun K hK => ?_)
   have hs39 : w38.cell? ⟨gb481, 0, none⟩ = some (.int .i64 0) := bc BK481 0
   have hfs39 := blk_frozen BK481.out 0
   have hns39_1 := NB482_481.out
   have hns39_2 := NB495_481.out
   have hms39_1 := NB481_482.out
   have hms39_2 := NB481_495.out
   have hs40 : w38.cell? ⟨gb481, 1, none⟩ = some (.int .i64 0) := bc BK481 1
   have hfs40 := blk_frozen BK481.out 1
   have hns40_1 := NB482_481.out
   have hns40_2 := NB495_481.out
   have hms40_1 := NB481_482.out
   have hms40_2 := NB481_495.out
   have hs41 : w38.cell? ⟨gb481, 2, none⟩ = some (.bool false) := bc BK481 2
   have hfs41 := blk_frozen BK481.out 2
   have hns41_1 := NB482_481.out
   have hns41_2 := NB495_481.out
   have hms41_1 := NB481_482.out
   have hms41_2 := NB481_495.out
   refine skip_ (w1 := ?_) (by rfl) rfl ?_ ?_
   rotate_left
   ·go_simp
    rfl
   refine hK.out _ _ ⟨((cell_far (p := ⟨gb481, _, none⟩) NB495_481.out _).trans (((cell_far (p := ⟨gb481, _, none⟩) NB495_481.out _).trans (((cell_far (p := ⟨gb481, _, none⟩) NB495_481.out _).trans (hHeld.1)))))), ((cell_far (p := ⟨gb481, _, none⟩) NB495_481.out _).trans (((cell_far (p := ⟨gb481, _, none⟩) NB495_481.out _).trans (((cell_far (p := ⟨gb481, _, none⟩) NB495_481.out _).trans (hHeld.2.1)))))), ((cell_far (p := ⟨gb481, _, none⟩) NB495_481.out _).trans (((cell_far (p := ⟨gb481, _, none⟩) NB495_481.out _).trans (((cell_far (p := ⟨gb481, _, none⟩) NB495_481.out _).trans (hHeld.2.2))))))⟩ (fun hHeld => ?_)
   clear hK K
   refine one_ (i := 4) (N := none) #[true, true, true, true, true] rfl rfl (by kernel_rfl) (by decide) (fun K hK => ?_)
   have hs42 : w38.cell? ⟨gb482, 0, none⟩ = some (.int .i64 0) := bc BK482 0
   have hfs42 := blk_frozen BK482.out 0
   have hns42_0 := NB481_482.out
   have hns42_2 := NB495_482.out
   have hms42_0 := NB482_481.out
   have hms42_2 := NB482_495.out
   have hs43 : w38.cell? ⟨gb482, 1, none⟩ = some (.int .i64 0) := bc BK482 1
   have hfs43 := blk_frozen BK482.out 1
   have hns43_0 := NB481_482.out
   have hns43_2 := NB495_482.out
   have hms43_0 := NB482_481.out
   have hms43_2 := NB482_495.out
   have hs44 : w38.cell? ⟨gb482, 2, none⟩ = some (.bool false) := bc BK482 2
   have hfs44 := blk_frozen BK482.out 2
   have hns44_0 := NB481_482.out
   have hns44_2 := NB495_482.out
   have hms44_0 := NB482_481.out
   have hms44_2 := NB482_495.out
   refine skip_ (w1 := ?_) (by rfl) rfl ?_ ?_
   rotate_left
   ·go_simp
    rfl
   refine hK.out _ _ ⟨((cell_far (p := ⟨gb482, _, none⟩) NB495_482.out _).trans (((cell_far (p := ⟨gb482, _, none⟩) NB495_482.out _).trans (((cell_far (p := ⟨gb482, _, none⟩) NB495_482.out _).trans (hHeld.1)))))), ((cell_far (p := ⟨gb482, _, none⟩) NB495_482.out _).trans (((cell_far (p := ⟨gb482, _, none⟩) NB495_482.out _).trans (((cell_far (p := ⟨gb482, _, none⟩) NB495_482.out _).trans (hHeld.2.1)))))), ((cell_far (p := ⟨gb482, _, none⟩) NB495_482.out _).trans (((cell_far (p := ⟨gb482, _, none⟩) NB495_482.out _).trans (((cell_far (p := ⟨gb482, _, none⟩) NB495_482.out _).trans (hHeld.2.2))))))⟩ (fun hHeld => ?_)
   clear hK K
   refine done_ (by kernel_rfl) ?_
   try go_wp2
   refine bodyPost_ret (results_cc rfl _ _ gb481 gb482 25 25 #[.int .i64 t490, .int .i64 t491, .bool t492] #[.int .i64 t496, .int .i64 t497, .bool t498] (0, 0) (0, 0) _ _ rfl (bU BK481) Try.underlying25 rfl (by kernel_rfl) rfl (bU BK482) Try.underlying25 rfl (by kernel_rfl)) rfl ?_
   exact ⟨by first | rfl | (simp [errW_none, errW_some] <;> rfl) | (simp [*, errW_none, errW_some] <;> rfl), by repeat (first | (with_reducible first | exact HB.out | apply below_alloc | apply pw_below_drewN | apply below_drew1 | refine below_set ?_ (IsS89.ge HI486.out) | refine below_set ?_ GE481.out | refine below_set ?_ GE482.out | refine below_set ?_ GE495.out) | exact HB.out)⟩
  ·rw [if_neg c24] at H
   have c24b0 : (t487 == 1) = false := beq_eq_false_iff_ne.mpr c24
   have c24b1 : (t487 != 1) = true := bne_iff_ne.mpr c24
   replace H := Option.bind_eq_some_iff.mp H
   obtain ⟨⟨t499, t500, t501, t502, t503⟩, A450, H⟩ := H
   have A45 := Aside0.mk A450
   clear A450
   simp only [Option.some.injEq, Prod.mk.injEq] at H
   obtain ⟨rfl, rfl, rfl, rfl, rfl, rfl⟩ := H
   go_enter Try.func96, Try.ntmps96
   try go_wp2_with (first | ((with_reducible refine gate_dst (N := 2) rfl ?_); refine bE 2 #[.int .i64 0, .int .i64 0, .bool false] 25 ?_; intro gb481 hg w46 hbox hb; have BK481 := Aside0.mk (hbox); have GW481 := bG HB hg; have GE481 := bG HB hg; replace HB := bS HB hb; clear hb hbox hg) | ((with_reducible refine gate_dst (N := 3) rfl ?_); refine bE 3 #[.int .i64 0, .int .i64 0, .bool false] 25 ?_; intro gb482 hg w47 hbox hb; have BK482 := Aside0.mk (hbox); have GW482 := bG HB hg; have GE482 := bG HB hg; replace HB := bS HB hb; have NB481_482 := bL BK481 hg; have NB482_481 := bR BK481 hg; replace BK481 := bB BK481 hb; clear hb hbox hg) | ((with_reducible refine gate_callee (f := 59) rfl ?_); refine gL (some 8) Try.func59 #[.slice A0 l0.length c0] ?_; (with_reducible refine (spec_l01New.calls k _ _ l0 t483 t484 t485 w _ ?side1 ?side2 ?side3 A2.out).mono ?_); (case side1 => repeat (first | (with_reducible first | exact HB.out | apply below_alloc | apply pw_below_drewN | apply below_drew1 | refine below_set ?_ GE481.out | refine below_set ?_ GE482.out) | exact HB.out)); (case side2 => exact HR0.out); (case side3 => exact HC0.out); rintro e w48 ⟨g486, rfl, hi, hb, hb2⟩; refine ⟨_, rfl, ?_⟩; replace HB := Aside0.mk (hb); have HI486 := Aside0.mk (hi); have NB486_481 := Aside0.mk (IsS89.ne_blk hi (blk_below (bP BK481) hb2) (by decide)); have NB481_486 := Aside0.mk (Ne.symm (IsS89.ne_blk hi (blk_below (bP BK481) hb2) (by decide))); replace BK481 := Aside0.mk (blk_below (bP BK481) hb2); have NB486_482 := Aside0.mk (IsS89.ne_blk hi (blk_below (bP BK482) hb2) (by decide)); have NB482_486 := Aside0.mk (Ne.symm (IsS89.ne_blk hi (blk_below (bP BK482) hb2) (by decide))); replace BK482 := Aside0.mk (blk_below (bP BK482) hb2); (try clear hb)) | ((with_reducible refine gate_callee (f := 62) rfl ?_); refine gL (some 10) Try.func62 #[.pointer (some ⟨g486, 0, none⟩), .int .i64 5] ?_; (with_reducible refine (spec_l01Below.calls g486 t483 t484 t485 5 t487 t488 t489 w _ ?side1 ?side2 A3.out).mono ?_); (case side1 => repeat (first | (with_reducible first | exact HI486.out | apply IsS89.alloc | apply IsS89.drewN | apply IsS89.drew | apply IsS89.set_1 | apply IsS89.set_2 | refine IsS89.far ?_ NB486_481.out _ | refine IsS89.far ?_ NB486_482.out _) | exact HI486.out)); (case side2 => repeat (first | (with_reducible first | exact HB.out | apply below_alloc | apply pw_below_drewN | apply below_drew1 | refine below_set ?_ (IsS89.ge HI486.out) | refine below_set ?_ GE481.out | refine below_set ?_ GE482.out) | exact HB.out)); rintro e w49 ⟨rfl, hi, hb, hk⟩; refine ⟨_, rfl, ?_⟩; replace BK481 := Aside0.mk (KeepBut.blk hk (g' := gb481) (o := .cells #[.int .i64 0, .int .i64 0, .bool false] 25 (0, 0)) (bP BK481) NB481_486.out (by simp)); replace BK482 := Aside0.mk (KeepBut.blk hk (g' := gb482) (o := .cells #[.int .i64 0, .int .i64 0, .bool false] 25 (0, 0)) (bP BK482) NB482_486.out (by simp)); replace HB := Aside0.mk (hb); replace HI486 := Aside0.mk (hi); (try clear hb)) | ((with_reducible refine gate_callee (f := 90) rfl ?_); refine gL (some 12) Try.func90 #[.pointer (some ⟨g486, 0, none⟩)] ?_; (with_reducible refine (spec_l07Any.calls k g486 t483 t488 t489 t490 t491 t492 t493 t494 w _ ?side1 ?side2 A4.out).mono ?_); (case side1 => repeat (first | (with_reducible first | exact HI486.out | apply IsS89.alloc | apply IsS89.drewN | apply IsS89.drew | apply IsS89.set_1 | apply IsS89.set_2 | refine IsS89.far ?_ NB486_481.out _ | refine IsS89.far ?_ NB486_482.out _) | exact HI486.out)); (case side2 => repeat (first | (with_reducible first | exact HB.out | apply below_alloc | apply pw_below_drewN | apply below_drew1 | refine below_set ?_ (IsS89.ge HI486.out) | refine below_set ?_ GE481.out | refine below_set ?_ GE482.out) | exact HB.out)); rintro e w50 ⟨rfl, hi, hb, hk⟩; refine ⟨_, rfl, ?_⟩; replace BK481 := Aside0.mk (KeepBut.blk hk (g' := gb481) (o := .cells #[.int .i64 0, .int .i64 0, .bool false] 25 (0, 0)) (bP BK481) NB481_486.out (by simp)); replace BK482 := Aside0.mk (KeepBut.blk hk (g' := gb482) (o := .cells #[.int .i64 0, .int .i64 0, .bool false] 25 (0, 0)) (bP BK482) NB482_486.out (by simp)); replace HB := Aside0.mk (hb); replace HI486 := Aside0.mk (hi); (try clear hb)) | ((with_reducible refine gate_dst (N := 6) rfl ?_); refine bE 6 #[.int .i64 0, .int .i64 0, .bool false] 25 ?_; intro gb495 hg w51 hbox hb; have BK495 := Aside0.mk (hbox); have GW495 := Aside0.mk ((by rw [hg]; exact (below_size (by repeat (first | (with_reducible first | exact HB.out | apply below_alloc | apply pw_below_drewN | apply below_drew1 | refine below_set ?_ (IsS89.ge HI486.out) | refine below_set ?_ GE481.out | refine below_set ?_ GE482.out) | exact HB.out))) : w.heap.size ≤ gb495)); have GE495 := Aside0.mk ((by rw [hg]; exact (below_size (by repeat (first | (with_reducible first | exact HB.out | apply below_alloc | apply pw_below_drewN | apply below_drew1 | refine below_set ?_ (IsS89.ge HI486.out) | refine below_set ?_ GE481.out | refine below_set ?_ GE482.out) | exact HB.out))) : w.heap.size ≤ gb495)); replace HB := Aside0.mk (below_step (by repeat (first | (with_reducible first | exact HB.out | apply below_alloc | apply pw_below_drewN | apply below_drew1 | refine below_set ?_ (IsS89.ge HI486.out) | refine below_set ?_ GE481.out | refine below_set ?_ GE482.out) | exact HB.out)) hb); have NB481_495 := bL BK481 hg; have NB495_481 := bR BK481 hg; replace BK481 := bB BK481 hb; have NB482_495 := bL BK482 hg; have NB495_482 := bR BK482 hg; replace BK482 := bB BK482 hb; have NB486_495 := Aside0.mk ((by rw [hg]; exact Nat.ne_of_lt (IsS89.lt (show IsS89 w _ g486 t483 t493 t494 from by repeat (first | (with_reducible first | exact HI486.out | apply IsS89.alloc | apply IsS89.drewN | apply IsS89.drew | apply IsS89.set_1 | apply IsS89.set_2 | refine IsS89.far ?_ NB486_481.out _ | refine IsS89.far ?_ NB486_482.out _) | exact HI486.out))) : g486 ≠ gb495)); have NB495_486 := Aside0.mk ((by rw [hg]; exact Nat.ne_of_gt (IsS89.lt (show IsS89 w _ g486 t483 t493 t494 from by repeat (first | (with_reducible first | exact HI486.out | apply IsS89.alloc | apply IsS89.drewN | apply IsS89.drew | apply IsS89.set_1 | apply IsS89.set_2 | refine IsS89.far ?_ NB486_481.out _ | refine IsS89.far ?_ NB486_482.out _) | exact HI486.out))) : gb495 ≠ g486)); replace HI486 := Aside0.mk (IsS89.below (by repeat (first | (with_reducible first | exact HI486.out | apply IsS89.alloc | apply IsS89.drewN | apply IsS89.drew | apply IsS89.set_1 | apply IsS89.set_2 | refine IsS89.far ?_ NB486_481.out _ | refine IsS89.far ?_ NB486_482.out _) | exact HI486.out)) hb); clear hb hbox hg; obtain ⟨hnb52, hnc52⟩ := nB NB495_481; obtain ⟨hnb53, hnc53⟩ := nB NB495_482; obtain ⟨hnb54, hnc54⟩ := nB NB495_486; obtain ⟨hcz55_0, hcz55_1, hcz55_2, hfz55_0, hfz55_1, hfz55_2⟩ := bK3 (w := w51) BK495))
   obtain ⟨w56, hW_⟩ : ∃ W_ : World, W_ = (((w51.setCell ⟨gb495, 0, none⟩ (.int .i64 t490)).setCell ⟨gb495, 1, none⟩ (.int .i64 t491)).setCell ⟨gb495, 2, none⟩ (.bool t492)) := ⟨_, rfl⟩
   replace BK481 := bW hW_ BK481
   replace BK482 := bW hW_ BK482
   replace BK495 := bX hW_ 25 #[.int .i64 t490, .int .i64 t491, .bool t492] BK495
   have n3_ : Aside0 (IsS89 w (((w51.setCell ⟨gb495, 0, none⟩ (.int .i64 t490)).setCell ⟨gb495, 1, none⟩ (.int .i64 t491)).setCell ⟨gb495, 2, none⟩ (.bool t492)) g486 t483 t493 t494) := ⟨by repeat (first | (with_reducible first | exact HI486.out | apply IsS89.alloc | apply IsS89.drewN | apply IsS89.drew | apply IsS89.set_1 | apply IsS89.set_2 | refine IsS89.far ?_ NB486_481.out _ | refine IsS89.far ?_ NB486_482.out _ | refine IsS89.far ?_ NB486_495.out _) | exact HI486.out)⟩
   rw [← hW_] at n3_
   have n4_ : Aside0 (Below w.heap.size w (((w51.setCell ⟨gb495, 0, none⟩ (.int .i64 t490)).setCell ⟨gb495, 1, none⟩ (.int .i64 t491)).setCell ⟨gb495, 2, none⟩ (.bool t492))) := ⟨by repeat (first | (with_reducible first | exact HB.out | apply below_alloc | apply pw_below_drewN | apply below_drew1 | refine below_set ?_ (IsS89.ge HI486.out) | refine below_set ?_ GE481.out | refine below_set ?_ GE482.out | refine below_set ?_ GE495.out) | exact HB.out)⟩
   rw [← hW_] at n4_
   (try clear HI486)
   (try clear HB)
   have HI486 := n3_
   clear n3_
   have HB := n4_
   clear n4_
   rw [← hW_]
   clear hW_
   replace BK481 := Aside0.mk (blk_drew BK481.out)
   replace BK482 := Aside0.mk (blk_drew BK482.out)
   replace BK495 := Aside0.mk (blk_drew BK495.out)
   replace HI486 := Aside0.mk (IsS89.drew HI486.out)
   replace HB := Aside0.mk (below_drew1 HB.out)
   refine start_ (n := 5) (S := fun w' => SQ3 w' gb495 (.int .i64 t490) (.int .i64 t491) (.bool t492)) (ds := []) #[false, false, false, false, false] (by kernel_rfl) rfl rfl (bT3 BK495) (fun hHeld => ?_)
   generalize w56.drew = w57 at BK481 BK482 BK495 HI486 HB hHeld ⊢
   refine pure_ (i := 1) (N := some 24) (v := ?_) (a' := ?_) #[false, true, false, false, false] rfl rfl (by kernel_rfl) (fun _ _ _ h => h) (Or.inl ⟨by rfl, ?_⟩) ?_ ?_
   rotate_left
   ·intro w'
    go_simp
    with_reducible rfl
   rotate_left
   ·simp only [Act.put, List.setIfInBounds_toArray, List.set_cons_zero, List.set_cons_succ, i64_w, i32_w]
    rfl
   refine take_ (i := 0) (N := some 23) (v := ?_) (a' := ?_) #[true, true, false, false, false] rfl rfl (by kernel_rfl) (fun _ _ _ h => h) (Or.inl ⟨by rfl, ?_⟩) hHeld ?_ ?_
   rotate_left
   ·rintro w' ⟨s0, s1, s2⟩
    go_simp
    with_reducible rfl
   rotate_left
   ·simp only [Act.put, List.setIfInBounds_toArray, List.set_cons_zero, List.set_cons_succ, i64_w, i32_w]
    rfl
   refine one_ (i := 2) (N := some 25) #[true, true, true, false, false] rfl rfl (by kernel_rfl) (by decide) (fun K hK => ?_)
   refine gO Try.func90 #[.pointer (some ⟨g486, 0, none⟩)] ?_
   with_reducible refine (spec_l07Any.calls k g486 t483 t493 t494 t499 t500 t501 t502 t503 w _ ?side1 ?side2 A45.out).mono ?_
   (case side1 => repeat (first | (with_reducible first | exact HI486.out | apply IsS89.alloc | apply IsS89.drewN | apply IsS89.drew | apply IsS89.set_1 | apply IsS89.set_2 | refine IsS89.far ?_ NB486_481.out _ | refine IsS89.far ?_ NB486_482.out _ | refine IsS89.far ?_ NB486_495.out _) | exact HI486.out))
   (case side2 => repeat (first | (with_reducible first | exact HB.out | apply below_alloc | apply pw_below_drewN | apply below_drew1 | refine below_set ?_ (IsS89.ge HI486.out) | refine below_set ?_ GE481.out | refine below_set ?_ GE482.out | refine below_set ?_ GE495.out) | exact HB.out))
   rintro e w58 ⟨rfl, hi, hb, hk⟩
   refine ⟨_, rfl, ?_⟩
   replace BK481 := Aside0.mk (KeepBut.blk hk (g' := gb481) (o := .cells #[.int .i64 0, .int .i64 0, .bool false] 25 (0, 0)) (bP BK481) NB481_486.out (by simp))
   replace BK482 := Aside0.mk (KeepBut.blk hk (g' := gb482) (o := .cells #[.int .i64 0, .int .i64 0, .bool false] 25 (0, 0)) (bP BK482) NB482_486.out (by simp))
   replace BK495 := Aside0.mk (KeepBut.blk hk (g' := gb495) (o := .cells #[.int .i64 t490, .int .i64 t491, .bool t492] 25 (0, 0)) (bP BK495) NB495_486.out (by simp))
   replace HB := Aside0.mk (hb)
   replace HI486 := Aside0.mk (hi)
   (try clear hb)
   refine hK.out _ _ (bT3 BK495) (fun hHeld => ?_)
   clear hK K
   refine nO (some 25) ?_
   refine one_ (i := 3) (N := none) #[true, true, true, true, false] rfl rfl (by kernel_rfl) (by decide) (fun K hK => ?_)
   have hs59 : w58.cell? ⟨gb481, 0, none⟩ = some (.int .i64 0) := bc BK481 0
   have hfs59 := blk_frozen BK481.out 0
   have hns59_1 := NB482_481.out
   have hns59_2 := NB495_481.out
   have hms59_1 := NB481_482.out
   have hms59_2 := NB481_495.out
   have hs60 : w58.cell? ⟨gb481, 1, none⟩ = some (.int .i64 0) := bc BK481 1
   have hfs60 := blk_frozen BK481.out 1
   have hns60_1 := NB482_481.out
   have hns60_2 := NB495_481.out
   have hms60_1 := NB481_482.out
   have hms60_2 := NB481_495.out
   have hs61 : w58.cell? ⟨gb481, 2, none⟩ = some (.bool false) := bc BK481 2
   have hfs61 := blk_frozen BK481.out 2
   have hns61_1 := NB482_481.out
   have hns61_2 := NB495_481.out
   have hms61_1 := NB481_482.out
   have hms61_2 := NB481_495.out
   refine skip_ (w1 := ?_) (by rfl) rfl ?_ ?_
   rotate_left
   ·go_simp
    rfl
   refine hK.out _ _ ⟨((cell_far (p := ⟨gb481, _, none⟩) NB495_481.out _).trans (((cell_far (p := ⟨gb481, _, none⟩) NB495_481.out _).trans (((cell_far (p := ⟨gb481, _, none⟩) NB495_481.out _).trans (hHeld.1)))))), ((cell_far (p := ⟨gb481, _, none⟩) NB495_481.out _).trans (((cell_far (p := ⟨gb481, _, none⟩) NB495_481.out _).trans (((cell_far (p := ⟨gb481, _, none⟩) NB495_481.out _).trans (hHeld.2.1)))))), ((cell_far (p := ⟨gb481, _, none⟩) NB495_481.out _).trans (((cell_far (p := ⟨gb481, _, none⟩) NB495_481.out _).trans (((cell_far (p := ⟨gb481, _, none⟩) NB495_481.out _).trans (hHeld.2.2))))))⟩ (fun hHeld => ?_)
   clear hK K
   refine one_ (i := 4) (N := none) #[true, true, true, true, true] rfl rfl (by kernel_rfl) (by decide) (fun K hK => ?_)
   have hs62 : w58.cell? ⟨gb482, 0, none⟩ = some (.int .i64 0) := bc BK482 0
   have hfs62 := blk_frozen BK482.out 0
   have hns62_0 := NB481_482.out
   have hns62_2 := NB495_482.out
   have hms62_0 := NB482_481.out
   have hms62_2 := NB482_495.out
   have hs63 : w58.cell? ⟨gb482, 1, none⟩ = some (.int .i64 0) := bc BK482 1
   have hfs63 := blk_frozen BK482.out 1
   have hns63_0 := NB481_482.out
   have hns63_2 := NB495_482.out
   have hms63_0 := NB482_481.out
   have hms63_2 := NB482_495.out
   have hs64 : w58.cell? ⟨gb482, 2, none⟩ = some (.bool false) := bc BK482 2
   have hfs64 := blk_frozen BK482.out 2
   have hns64_0 := NB481_482.out
   have hns64_2 := NB495_482.out
   have hms64_0 := NB482_481.out
   have hms64_2 := NB482_495.out
   refine skip_ (w1 := ?_) (by rfl) rfl ?_ ?_
   rotate_left
   ·go_simp
    rfl
   refine hK.out _ _ ⟨((cell_far (p := ⟨gb482, _, none⟩) NB495_482.out _).trans (((cell_far (p := ⟨gb482, _, none⟩) NB495_482.out _).trans (((cell_far (p := ⟨gb482, _, none⟩) NB495_482.out _).trans (hHeld.1)))))), ((cell_far (p := ⟨gb482, _, none⟩) NB495_482.out _).trans (((cell_far (p := ⟨gb482, _, none⟩) NB495_482.out _).trans (((cell_far (p := ⟨gb482, _, none⟩) NB495_482.out _).trans (hHeld.2.1)))))), ((cell_far (p := ⟨gb482, _, none⟩) NB495_482.out _).trans (((cell_far (p := ⟨gb482, _, none⟩) NB495_482.out _).trans (((cell_far (p := ⟨gb482, _, none⟩) NB495_482.out _).trans (hHeld.2.2))))))⟩ (fun hHeld => ?_)
   clear hK K
   refine done_ (by kernel_rfl) ?_
   try go_wp2
   refine bodyPost_ret (results_cc rfl _ _ gb481 gb482 25 25 #[.int .i64 t490, .int .i64 t491, .bool t492] #[.int .i64 t499, .int .i64 t500, .bool t501] (0, 0) (0, 0) _ _ rfl (bU BK481) Try.underlying25 rfl (by kernel_rfl) rfl (bU BK482) Try.underlying25 rfl (by kernel_rfl)) rfl ?_
   exact ⟨by first | rfl | (simp [errW_none, errW_some] <;> rfl) | (simp [*, errW_none, errW_some] <;> rfl), by repeat (first | (with_reducible first | exact HB.out | apply below_alloc | apply pw_below_drewN | apply below_drew1 | refine below_set ?_ (IsS89.ge HI486.out) | refine below_set ?_ GE481.out | refine below_set ?_ GE482.out | refine below_set ?_ GE495.out) | exact HB.out)⟩
/-! ### spec_DrawPairLine: function 57 -/
def spec_DrawPairLine.f (k : Nat) (l0 : List Int) : Option (Int × Int × Bool × Int × Int × Bool × Int × Int × Bool) := (spec_l01New.f k l0).bind fun bt954 => ((spec_l07Any.f k bt954.1 bt954.2.1 bt954.2.2).bind fun bt958 => ((spec_l07Pair.f k l0).bind fun bt964 => (some (bt964.1, bt964.2.1, bt964.2.2.1, bt964.2.2.2.1, bt964.2.2.2.2.1, bt964.2.2.2.2.2, bt958.1, bt958.2.1, bt958.2.2.1))))
theorem spec_DrawPairLine.mono : ∀ a0 k, LeO (spec_DrawPairLine.f k a0) (spec_DrawPairLine.f (k + 1) a0) := by
 intro a0 k
 unfold spec_DrawPairLine.f
 repeat' first
   | (with_reducible exact spec_l01New.mono _ _)
   | (with_reducible exact spec_l07Any.mono _ _ _ _)
   | (with_reducible exact spec_l07Pair.mono _ _)
   | (with_reducible exact LeO.refl _)
   | (with_reducible exact LeO.none _)
   | (with_reducible refine LeO.ite ?_ ?_)
   | (with_reducible refine LeO.bind ?_ (fun _ => ?_))
   | exact spec_l01New.mono _ _
   | exact spec_l07Any.mono _ _ _ _
   | exact spec_l07Pair.mono _ _
   | exact LeO.none _
   | refine LeO.ite ?_ ?_
   | refine LeO.bind ?_ (fun _ => ?_)
set_option maxHeartbeats 8000000 in
set_option maxRecDepth 100000 in
theorem spec_DrawPairLine.calls (k : Nat) (A0 : Option Addr) (c0 : Nat) (l0 : List Int) (r1 : Int) (r2 : Int) (r3 : Bool) (r4 : Int) (r5 : Int) (r6 : Bool) (r7 : Int) (r8 : Int) (r9 : Bool) (w : World) (hr0 : Kd.C (Kd.int .u8) w A0 l0.length l0) (hc0 : l0.length ≤ c0) (h : spec_DrawPairLine.f k l0 = some (r1, r2, r3, r4, r5, r6, r7, r8, r9)) :
  Calls Try.prog 57 #[.slice A0 l0.length c0] w fun e w' => e = .returned (.tuple #[.agg #[.int .i64 r1, .int .i64 r2, .bool r3], .agg #[.int .i64 r4, .int .i64 r5, .bool r6], .agg #[.int .i64 r7, .int .i64 r8, .bool r9]]) ∧ Below w.heap.size w w' := by
 have hu25 := Try.underlying25
 have HR0 := Aside0.mk hr0
 have HC0 := Aside0.mk hc0
 clear hr0 hc0
 have HB := Aside0.mk (Below.refl w.heap.size w)
 have H : ((spec_l01New.f k l0).bind fun bt954 => ((spec_l07Any.f k bt954.1 bt954.2.1 bt954.2.2).bind fun bt958 => ((spec_l07Pair.f k l0).bind fun bt964 => (some (bt964.1, bt964.2.1, bt964.2.2.1, bt964.2.2.2.1, bt964.2.2.2.2.1, bt964.2.2.2.2.2, bt958.1, bt958.2.1, bt958.2.2.1))))) = some (r1, r2, r3, r4, r5, r6, r7, r8, r9) := h
 clear h
 replace H := Option.bind_eq_some_iff.mp H
 obtain ⟨⟨t954, t955, t956⟩, A20, H⟩ := H
 have A2 := Aside0.mk A20
 clear A20
 replace H := Option.bind_eq_some_iff.mp H
 obtain ⟨⟨t958, t959, t960, t961, t962⟩, A30, H⟩ := H
 have A3 := Aside0.mk A30
 clear A30
 replace H := Option.bind_eq_some_iff.mp H
 obtain ⟨⟨t964, t965, t966, t967, t968, t969⟩, A40, H⟩ := H
 have A4 := Aside0.mk A40
 clear A40
 simp only [Option.some.injEq, Prod.mk.injEq] at H
 obtain ⟨rfl, rfl, rfl, rfl, rfl, rfl, rfl, rfl, rfl⟩ := H
 go_enter Try.func57, Try.ntmps57
 try go_wp2_with (first | ((with_reducible refine gate_dst (N := 2) rfl ?_); refine bE 2 #[.int .i64 0, .int .i64 0, .bool false] 25 ?_; intro gb951 hg w5 hbox hb; have BK951 := Aside0.mk (hbox); have GW951 := bG HB hg; have GE951 := bG HB hg; replace HB := bS HB hb; clear hb hbox hg) | ((with_reducible refine gate_dst (N := 3) rfl ?_); refine bE 3 #[.int .i64 0, .int .i64 0, .bool false] 25 ?_; intro gb952 hg w6 hbox hb; have BK952 := Aside0.mk (hbox); have GW952 := bG HB hg; have GE952 := bG HB hg; replace HB := bS HB hb; have NB951_952 := bL BK951 hg; have NB952_951 := bR BK951 hg; replace BK951 := bB BK951 hb; clear hb hbox hg) | ((with_reducible refine gate_dst (N := 4) rfl ?_); refine bE 4 #[.int .i64 0, .int .i64 0, .bool false] 25 ?_; intro gb953 hg w7 hbox hb; have BK953 := Aside0.mk (hbox); have GW953 := bG HB hg; have GE953 := bG HB hg; replace HB := bS HB hb; have NB951_953 := bL BK951 hg; have NB953_951 := bR BK951 hg; replace BK951 := bB BK951 hb; have NB952_953 := bL BK952 hg; have NB953_952 := bR BK952 hg; replace BK952 := bB BK952 hb; clear hb hbox hg) | ((with_reducible refine gate_callee (f := 59) rfl ?_); refine gL (some 10) Try.func59 #[.slice A0 l0.length c0] ?_; (with_reducible refine (spec_l01New.calls k _ _ l0 t954 t955 t956 w _ ?side1 ?side2 ?side3 A2.out).mono ?_); (case side1 => repeat (first | (with_reducible first | exact HB.out | apply below_alloc | apply pw_below_drewN | apply below_drew1 | refine below_set ?_ GE951.out | refine below_set ?_ GE952.out | refine below_set ?_ GE953.out) | exact HB.out)); (case side2 => exact HR0.out); (case side3 => exact HC0.out); rintro e w8 ⟨g957, rfl, hi, hb, hb2⟩; refine ⟨_, rfl, ?_⟩; replace HB := Aside0.mk (hb); have HI957 := Aside0.mk (hi); have NB957_951 := Aside0.mk (IsS89.ne_blk hi (blk_below (bP BK951) hb2) (by decide)); have NB951_957 := Aside0.mk (Ne.symm (IsS89.ne_blk hi (blk_below (bP BK951) hb2) (by decide))); replace BK951 := Aside0.mk (blk_below (bP BK951) hb2); have NB957_952 := Aside0.mk (IsS89.ne_blk hi (blk_below (bP BK952) hb2) (by decide)); have NB952_957 := Aside0.mk (Ne.symm (IsS89.ne_blk hi (blk_below (bP BK952) hb2) (by decide))); replace BK952 := Aside0.mk (blk_below (bP BK952) hb2); have NB957_953 := Aside0.mk (IsS89.ne_blk hi (blk_below (bP BK953) hb2) (by decide)); have NB953_957 := Aside0.mk (Ne.symm (IsS89.ne_blk hi (blk_below (bP BK953) hb2) (by decide))); replace BK953 := Aside0.mk (blk_below (bP BK953) hb2); (try clear hb)) | ((with_reducible refine gate_callee (f := 90) rfl ?_); refine gL (some 12) Try.func90 #[.pointer (some ⟨g957, 0, none⟩)] ?_; (with_reducible refine (spec_l07Any.calls k g957 t954 t955 t956 t958 t959 t960 t961 t962 w _ ?side1 ?side2 A3.out).mono ?_); (case side1 => repeat (first | (with_reducible first | exact HI957.out | apply IsS89.alloc | apply IsS89.drewN | apply IsS89.drew | apply IsS89.set_1 | apply IsS89.set_2 | refine IsS89.far ?_ NB957_951.out _ | refine IsS89.far ?_ NB957_952.out _ | refine IsS89.far ?_ NB957_953.out _) | exact HI957.out)); (case side2 => repeat (first | (with_reducible first | exact HB.out | apply below_alloc | apply pw_below_drewN | apply below_drew1 | refine below_set ?_ (IsS89.ge HI957.out) | refine below_set ?_ GE951.out | refine below_set ?_ GE952.out | refine below_set ?_ GE953.out) | exact HB.out)); rintro e w9 ⟨rfl, hi, hb, hk⟩; refine ⟨_, rfl, ?_⟩; replace BK951 := Aside0.mk (KeepBut.blk hk (g' := gb951) (o := .cells #[.int .i64 0, .int .i64 0, .bool false] 25 (0, 0)) (bP BK951) NB951_957.out (by simp)); replace BK952 := Aside0.mk (KeepBut.blk hk (g' := gb952) (o := .cells #[.int .i64 0, .int .i64 0, .bool false] 25 (0, 0)) (bP BK952) NB952_957.out (by simp)); replace BK953 := Aside0.mk (KeepBut.blk hk (g' := gb953) (o := .cells #[.int .i64 0, .int .i64 0, .bool false] 25 (0, 0)) (bP BK953) NB953_957.out (by simp)); replace HB := Aside0.mk (hb); replace HI957 := Aside0.mk (hi); (try clear hb)) | ((with_reducible refine gate_dst (N := 6) rfl ?_); refine bE 6 #[.int .i64 0, .int .i64 0, .bool false] 25 ?_; intro gb963 hg w10 hbox hb; have BK963 := Aside0.mk (hbox); have GW963 := Aside0.mk ((by rw [hg]; exact (below_size (by repeat (first | (with_reducible first | exact HB.out | apply below_alloc | apply pw_below_drewN | apply below_drew1 | refine below_set ?_ (IsS89.ge HI957.out) | refine below_set ?_ GE951.out | refine below_set ?_ GE952.out | refine below_set ?_ GE953.out) | exact HB.out))) : w.heap.size ≤ gb963)); have GE963 := Aside0.mk ((by rw [hg]; exact (below_size (by repeat (first | (with_reducible first | exact HB.out | apply below_alloc | apply pw_below_drewN | apply below_drew1 | refine below_set ?_ (IsS89.ge HI957.out) | refine below_set ?_ GE951.out | refine below_set ?_ GE952.out | refine below_set ?_ GE953.out) | exact HB.out))) : w.heap.size ≤ gb963)); replace HB := Aside0.mk (below_step (by repeat (first | (with_reducible first | exact HB.out | apply below_alloc | apply pw_below_drewN | apply below_drew1 | refine below_set ?_ (IsS89.ge HI957.out) | refine below_set ?_ GE951.out | refine below_set ?_ GE952.out | refine below_set ?_ GE953.out) | exact HB.out)) hb); have NB951_963 := bL BK951 hg; have NB963_951 := bR BK951 hg; replace BK951 := bB BK951 hb; have NB952_963 := bL BK952 hg; have NB963_952 := bR BK952 hg; replace BK952 := bB BK952 hb; have NB953_963 := bL BK953 hg; have NB963_953 := bR BK953 hg; replace BK953 := bB BK953 hb; have NB957_963 := Aside0.mk ((by rw [hg]; exact Nat.ne_of_lt (IsS89.lt (show IsS89 w _ g957 t954 t961 t962 from by repeat (first | (with_reducible first | exact HI957.out | apply IsS89.alloc | apply IsS89.drewN | apply IsS89.drew | apply IsS89.set_1 | apply IsS89.set_2 | refine IsS89.far ?_ NB957_951.out _ | refine IsS89.far ?_ NB957_952.out _ | refine IsS89.far ?_ NB957_953.out _) | exact HI957.out))) : g957 ≠ gb963)); have NB963_957 := Aside0.mk ((by rw [hg]; exact Nat.ne_of_gt (IsS89.lt (show IsS89 w _ g957 t954 t961 t962 from by repeat (first | (with_reducible first | exact HI957.out | apply IsS89.alloc | apply IsS89.drewN | apply IsS89.drew | apply IsS89.set_1 | apply IsS89.set_2 | refine IsS89.far ?_ NB957_951.out _ | refine IsS89.far ?_ NB957_952.out _ | refine IsS89.far ?_ NB957_953.out _) | exact HI957.out))) : gb963 ≠ g957)); replace HI957 := Aside0.mk (IsS89.below (by repeat (first | (with_reducible first | exact HI957.out | apply IsS89.alloc | apply IsS89.drewN | apply IsS89.drew | apply IsS89.set_1 | apply IsS89.set_2 | refine IsS89.far ?_ NB957_951.out _ | refine IsS89.far ?_ NB957_952.out _ | refine IsS89.far ?_ NB957_953.out _) | exact HI957.out)) hb); clear hb hbox hg; obtain ⟨hnb11, hnc11⟩ := nB NB963_951; obtain ⟨hnb12, hnc12⟩ := nB NB963_952; obtain ⟨hnb13, hnc13⟩ := nB NB963_953; obtain ⟨hnb14, hnc14⟩ := nB NB963_957; obtain ⟨hcz15_0, hcz15_1, hcz15_2, hfz15_0, hfz15_1, hfz15_2⟩ := bK3 (w := w10) BK963) | ((with_reducible refine gate_callee (f := 96) rfl ?_); refine gL (some 15) Try.func96 #[.slice A0 l0.length c0] ?_; (with_reducible refine (spec_l07Pair.calls k _ _ l0 t964 t965 t966 t967 t968 t969 _ ?side1 ?side2 A4.out).mono ?_); (case side1 => exact Kd.C_below HR0.out (by repeat (first | (with_reducible first | exact HB.out | apply below_alloc | apply pw_below_drewN | apply below_drew1 | refine below_set ?_ (IsS89.ge HI957.out) | refine below_set ?_ GE951.out | refine below_set ?_ GE952.out | refine below_set ?_ GE953.out | refine below_set ?_ GE963.out) | exact HB.out))); (case side2 => exact HC0.out); rintro e w16 ⟨rfl, hb⟩; refine ⟨_, rfl, ?_⟩; replace BK951 := bB BK951 hb; replace BK952 := bB BK952 hb; replace BK953 := bB BK953 hb; replace BK963 := bV 25 #[.int .i64 t958, .int .i64 t959, .bool t960] BK963 hb; replace HB := Aside0.mk (below_step (by repeat (first | (with_reducible first | exact HB.out | apply below_alloc | apply pw_below_drewN | apply below_drew1 | refine below_set ?_ (IsS89.ge HI957.out) | refine below_set ?_ GE951.out | refine below_set ?_ GE952.out | refine below_set ?_ GE953.out | refine below_set ?_ GE963.out) | exact HB.out)) hb); replace HI957 := Aside0.mk (IsS89.below (show IsS89 w (((w10.setCell ⟨gb963, 0, none⟩ (.int .i64 t958)).setCell ⟨gb963, 1, none⟩ (.int .i64 t959)).setCell ⟨gb963, 2, none⟩ (.bool t960)) g957 t954 t961 t962 from by repeat (first | (with_reducible first | exact HI957.out | apply IsS89.alloc | apply IsS89.drewN | apply IsS89.drew | apply IsS89.set_1 | apply IsS89.set_2 | refine IsS89.far ?_ NB957_951.out _ | refine IsS89.far ?_ NB957_952.out _ | refine IsS89.far ?_ NB957_953.out _ | refine IsS89.far ?_ NB957_963.out _) | exact HI957.out)) hb); (try clear hb)) | ((with_reducible refine gate_dst (N := 7) rfl ?_); refine bE 7 #[.int .i64 0, .int .i64 0, .bool false] 25 ?_; intro gb970 hg w17 hbox hb; have BK970 := Aside0.mk (hbox); have GW970 := Aside0.mk ((by rw [hg]; exact (below_size (by repeat (first | (with_reducible first | exact HB.out | apply below_alloc | apply pw_below_drewN | apply below_drew1 | refine below_set ?_ (IsS89.ge HI957.out) | refine below_set ?_ GE951.out | refine below_set ?_ GE952.out | refine below_set ?_ GE953.out | refine below_set ?_ GE963.out) | exact HB.out))) : w.heap.size ≤ gb970)); have GE970 := Aside0.mk ((by rw [hg]; exact (below_size (by repeat (first | (with_reducible first | exact HB.out | apply below_alloc | apply pw_below_drewN | apply below_drew1 | refine below_set ?_ (IsS89.ge HI957.out) | refine below_set ?_ GE951.out | refine below_set ?_ GE952.out | refine below_set ?_ GE953.out | refine below_set ?_ GE963.out) | exact HB.out))) : w.heap.size ≤ gb970)); replace HB := Aside0.mk (below_step (by repeat (first | (with_reducible first | exact HB.out | apply below_alloc | apply pw_below_drewN | apply below_drew1 | refine below_set ?_ (IsS89.ge HI957.out) | refine below_set ?_ GE951.out | refine below_set ?_ GE952.out | refine below_set ?_ GE953.out | refine below_set ?_ GE963.out) | exact HB.out)) hb); have NB951_970 := bL BK951 hg; have NB970_951 := bR BK951 hg; replace BK951 := bB BK951 hb; have NB952_970 := bL BK952 hg; have NB970_952 := bR BK952 hg; replace BK952 := bB BK952 hb; have NB953_970 := bL BK953 hg; have NB970_953 := bR BK953 hg; replace BK953 := bB BK953 hb; have NB963_970 := bL BK963 hg; have NB970_963 := bR BK963 hg; replace BK963 := bB BK963 hb; have NB957_970 := Aside0.mk ((by rw [hg]; exact Nat.ne_of_lt (IsS89.lt (show IsS89 w _ g957 t954 t961 t962 from by repeat (first | (with_reducible first | exact HI957.out | apply IsS89.alloc | apply IsS89.drewN | apply IsS89.drew | apply IsS89.set_1 | apply IsS89.set_2 | refine IsS89.far ?_ NB957_951.out _ | refine IsS89.far ?_ NB957_952.out _ | refine IsS89.far ?_ NB957_953.out _ | refine IsS89.far ?_ NB957_963.out _) | exact HI957.out))) : g957 ≠ gb970)); have NB970_957 := Aside0.mk ((by rw [hg]; exact Nat.ne_of_gt (IsS89.lt (show IsS89 w _ g957 t954 t961 t962 from by repeat (first | (with_reducible first | exact HI957.out | apply IsS89.alloc | apply IsS89.drewN | apply IsS89.drew | apply IsS89.set_1 | apply IsS89.set_2 | refine IsS89.far ?_ NB957_951.out _ | refine IsS89.far ?_ NB957_952.out _ | refine IsS89.far ?_ NB957_953.out _ | refine IsS89.far ?_ NB957_963.out _) | exact HI957.out))) : gb970 ≠ g957)); replace HI957 := Aside0.mk (IsS89.below (by repeat (first | (with_reducible first | exact HI957.out | apply IsS89.alloc | apply IsS89.drewN | apply IsS89.drew | apply IsS89.set_1 | apply IsS89.set_2 | refine IsS89.far ?_ NB957_951.out _ | refine IsS89.far ?_ NB957_952.out _ | refine IsS89.far ?_ NB957_953.out _ | refine IsS89.far ?_ NB957_963.out _) | exact HI957.out)) hb); clear hb hbox hg) | ((with_reducible refine gate_dst (N := 8) rfl ?_); refine bE 8 #[.int .i64 0, .int .i64 0, .bool false] 25 ?_; intro gb971 hg w18 hbox hb; have BK971 := Aside0.mk (hbox); have GW971 := Aside0.mk ((by rw [hg]; exact (below_size (by repeat (first | (with_reducible first | exact HB.out | apply below_alloc | apply pw_below_drewN | apply below_drew1 | refine below_set ?_ (IsS89.ge HI957.out) | refine below_set ?_ GE951.out | refine below_set ?_ GE952.out | refine below_set ?_ GE953.out | refine below_set ?_ GE963.out | refine below_set ?_ GE970.out) | exact HB.out))) : w.heap.size ≤ gb971)); have GE971 := Aside0.mk ((by rw [hg]; exact (below_size (by repeat (first | (with_reducible first | exact HB.out | apply below_alloc | apply pw_below_drewN | apply below_drew1 | refine below_set ?_ (IsS89.ge HI957.out) | refine below_set ?_ GE951.out | refine below_set ?_ GE952.out | refine below_set ?_ GE953.out | refine below_set ?_ GE963.out | refine below_set ?_ GE970.out) | exact HB.out))) : w.heap.size ≤ gb971)); replace HB := Aside0.mk (below_step (by repeat (first | (with_reducible first | exact HB.out | apply below_alloc | apply pw_below_drewN | apply below_drew1 | refine below_set ?_ (IsS89.ge HI957.out) | refine below_set ?_ GE951.out | refine below_set ?_ GE952.out | refine below_set ?_ GE953.out | refine below_set ?_ GE963.out | refine below_set ?_ GE970.out) | exact HB.out)) hb); have NB951_971 := bL BK951 hg; have NB971_951 := bR BK951 hg; replace BK951 := bB BK951 hb; have NB952_971 := bL BK952 hg; have NB971_952 := bR BK952 hg; replace BK952 := bB BK952 hb; have NB953_971 := bL BK953 hg; have NB971_953 := bR BK953 hg; replace BK953 := bB BK953 hb; have NB963_971 := bL BK963 hg; have NB971_963 := bR BK963 hg; replace BK963 := bB BK963 hb; have NB970_971 := bL BK970 hg; have NB971_970 := bR BK970 hg; replace BK970 := bB BK970 hb; have NB957_971 := Aside0.mk ((by rw [hg]; exact Nat.ne_of_lt (IsS89.lt (show IsS89 w _ g957 t954 t961 t962 from by repeat (first | (with_reducible first | exact HI957.out | apply IsS89.alloc | apply IsS89.drewN | apply IsS89.drew | apply IsS89.set_1 | apply IsS89.set_2 | refine IsS89.far ?_ NB957_951.out _ | refine IsS89.far ?_ NB957_952.out _ | refine IsS89.far ?_ NB957_953.out _ | refine IsS89.far ?_ NB957_963.out _ | refine IsS89.far ?_ NB957_970.out _) | exact HI957.out))) : g957 ≠ gb971)); have NB971_957 := Aside0.mk ((by rw [hg]; exact Nat.ne_of_gt (IsS89.lt (show IsS89 w _ g957 t954 t961 t962 from by repeat (first | (with_reducible first | exact HI957.out | apply IsS89.alloc | apply IsS89.drewN | apply IsS89.drew | apply IsS89.set_1 | apply IsS89.set_2 | refine IsS89.far ?_ NB957_951.out _ | refine IsS89.far ?_ NB957_952.out _ | refine IsS89.far ?_ NB957_953.out _ | refine IsS89.far ?_ NB957_963.out _ | refine IsS89.far ?_ NB957_970.out _) | exact HI957.out))) : gb971 ≠ g957)); replace HI957 := Aside0.mk (IsS89.below (by repeat (first | (with_reducible first | exact HI957.out | apply IsS89.alloc | apply IsS89.drewN | apply IsS89.drew | apply IsS89.set_1 | apply IsS89.set_2 | refine IsS89.far ?_ NB957_951.out _ | refine IsS89.far ?_ NB957_952.out _ | refine IsS89.far ?_ NB957_953.out _ | refine IsS89.far ?_ NB957_963.out _ | refine IsS89.far ?_ NB957_970.out _) | exact HI957.out)) hb); clear hb hbox hg; obtain ⟨hnb19, hnc19⟩ := nB NB970_951; obtain ⟨hnb20, hnc20⟩ := nB NB970_952; obtain ⟨hnb21, hnc21⟩ := nB NB970_953; obtain ⟨hnb22, hnc22⟩ := nB NB970_963; obtain ⟨hnb23, hnc23⟩ := nB NB970_971; obtain ⟨hnb24, hnc24⟩ := nB NB970_957; obtain ⟨hcz25_0, hcz25_1, hcz25_2, hfz25_0, hfz25_1, hfz25_2⟩ := bK3 (w := w18) BK970; obtain ⟨hnb26, hnc26⟩ := nB NB971_951; obtain ⟨hnb27, hnc27⟩ := nB NB971_952; obtain ⟨hnb28, hnc28⟩ := nB NB971_953; obtain ⟨hnb29, hnc29⟩ := nB NB971_963; obtain ⟨hnb30, hnc30⟩ := nB NB971_957; obtain ⟨hcz31_0, hcz31_1, hcz31_2, hfz31_0, hfz31_1, hfz31_2⟩ := bK3 (w := w18) BK971))
 obtain ⟨w32, hW_⟩ : ∃ W_ : World, W_ = ((((((w18.setCell ⟨gb970, 0, none⟩ (.int .i64 t964)).setCell ⟨gb970, 1, none⟩ (.int .i64 t965)).setCell ⟨gb970, 2, none⟩ (.bool t966)).setCell ⟨gb971, 0, none⟩ (.int .i64 t967)).setCell ⟨gb971, 1, none⟩ (.int .i64 t968)).setCell ⟨gb971, 2, none⟩ (.bool t969)) := ⟨_, rfl⟩
 replace BK951 := bW hW_ BK951
 replace BK952 := bW hW_ BK952
 replace BK953 := bW hW_ BK953
 replace BK963 := bW hW_ BK963
 replace BK970 := bX hW_ 25 #[.int .i64 t964, .int .i64 t965, .bool t966] BK970
 replace BK971 := bX hW_ 25 #[.int .i64 t967, .int .i64 t968, .bool t969] BK971
 have n6_ : Aside0 (IsS89 w ((((((w18.setCell ⟨gb970, 0, none⟩ (.int .i64 t964)).setCell ⟨gb970, 1, none⟩ (.int .i64 t965)).setCell ⟨gb970, 2, none⟩ (.bool t966)).setCell ⟨gb971, 0, none⟩ (.int .i64 t967)).setCell ⟨gb971, 1, none⟩ (.int .i64 t968)).setCell ⟨gb971, 2, none⟩ (.bool t969)) g957 t954 t961 t962) := ⟨by repeat (first | (with_reducible first | exact HI957.out | apply IsS89.alloc | apply IsS89.drewN | apply IsS89.drew | apply IsS89.set_1 | apply IsS89.set_2 | refine IsS89.far ?_ NB957_951.out _ | refine IsS89.far ?_ NB957_952.out _ | refine IsS89.far ?_ NB957_953.out _ | refine IsS89.far ?_ NB957_963.out _ | refine IsS89.far ?_ NB957_970.out _ | refine IsS89.far ?_ NB957_971.out _) | exact HI957.out)⟩
 rw [← hW_] at n6_
 have n7_ : Aside0 (Below w.heap.size w ((((((w18.setCell ⟨gb970, 0, none⟩ (.int .i64 t964)).setCell ⟨gb970, 1, none⟩ (.int .i64 t965)).setCell ⟨gb970, 2, none⟩ (.bool t966)).setCell ⟨gb971, 0, none⟩ (.int .i64 t967)).setCell ⟨gb971, 1, none⟩ (.int .i64 t968)).setCell ⟨gb971, 2, none⟩ (.bool t969))) := ⟨by repeat (first | (with_reducible first | exact HB.out | apply below_alloc | apply pw_below_drewN | apply below_drew1 | refine below_set ?_ (IsS89.ge HI957.out) | refine below_set ?_ GE951.out | refine below_set ?_ GE952.out | refine below_set ?_ GE953.out | refine below_set ?_ GE963.out | refine below_set ?_ GE970.out | refine below_set ?_ GE971.out) | exact HB.out)⟩
 rw [← hW_] at n7_
 (try clear HI957)
 (try clear HB)
 have HI957 := n6_
 clear n6_
 have HB := n7_
 clear n7_
 rw [← hW_]
 clear hW_
 replace BK951 := Aside0.mk (blk_drew BK951.out)
 replace BK952 := Aside0.mk (blk_drew BK952.out)
 replace BK953 := Aside0.mk (blk_drew BK953.out)
 replace BK963 := Aside0.mk (blk_drew BK963.out)
 replace BK970 := Aside0.mk (blk_drew BK970.out)
 replace BK971 := Aside0.mk (blk_drew BK971.out)
 replace HI957 := Aside0.mk (IsS89.drew HI957.out)
 replace HB := Aside0.mk (below_drew1 HB.out)
 refine start_ (n := 6) (S := fun w' => SP3 w' gb970 (.int .i64 t964) (.int .i64 t965) (.bool t966) (SP3 w' gb971 (.int .i64 t967) (.int .i64 t968) (.bool t969) (SQ3 w' gb963 (.int .i64 t958) (.int .i64 t959) (.bool t960)))) (ds := []) #[false, false, false, false, false, false] (by kernel_rfl) rfl rfl (bS3 BK970 (bS3 BK971 (bT3 BK963))) (fun hHeld => ?_)
 generalize w32.drew = w33 at BK951 BK952 BK953 BK963 BK970 BK971 HI957 HB hHeld ⊢
 refine take_ (i := 0) (N := some 18) (v := ?_) (a' := ?_) #[true, false, false, false, false, false] rfl rfl (by kernel_rfl) (fun _ _ _ h => h) (Or.inl ⟨by rfl, ?_⟩) hHeld ?_ ?_
 rotate_left
 ·rintro w' ⟨s0, s1, s2, s3, s4, s5, s6, s7, s8⟩
  go_simp
  with_reducible rfl
 rotate_left
 ·simp only [Act.put, List.setIfInBounds_toArray, List.set_cons_zero, List.set_cons_succ, i64_w, i32_w]
  rfl
 refine take_ (i := 1) (N := some 19) (v := ?_) (a' := ?_) #[true, true, false, false, false, false] rfl rfl (by kernel_rfl) (fun _ _ _ h => h) (Or.inl ⟨by rfl, ?_⟩) hHeld ?_ ?_
 rotate_left
 ·rintro w' ⟨s0, s1, s2, s3, s4, s5, s6, s7, s8⟩
  go_simp
  with_reducible rfl
 rotate_left
 ·simp only [Act.put, List.setIfInBounds_toArray, List.set_cons_zero, List.set_cons_succ, i64_w, i32_w]
  rfl
 refine take_ (i := 2) (N := some 20) (v := ?_) (a' := ?_) #[true, true, true, false, false, false] rfl rfl (by kernel_rfl) (fun _ _ _ h => h) (Or.inl ⟨by rfl, ?_⟩) hHeld ?_ ?_
 rotate_left
 ·rintro w' ⟨s0, s1, s2, s3, s4, s5, s6, s7, s8⟩
  go_simp
  with_reducible rfl
 rotate_left
 ·simp only [Act.put, List.setIfInBounds_toArray, List.set_cons_zero, List.set_cons_succ, i64_w, i32_w]
  rfl
 refine one_ (i := 3) (N := none) #[true, true, true, true, false, false] rfl rfl (by kernel_rfl) (by decide) (fun K hK => ?_)
 have hs34 : w33.cell? ⟨gb951, 0, none⟩ = some (.int .i64 0) := bc BK951 0
 have hfs34 := blk_frozen BK951.out 0
 have hns34_1 := NB952_951.out
 have hns34_2 := NB953_951.out
 have hns34_3 := NB963_951.out
 have hns34_4 := NB970_951.out
 have hns34_5 := NB971_951.out
 have hms34_1 := NB951_952.out
 have hms34_2 := NB951_953.out
 have hms34_3 := NB951_963.out
 have hms34_4 := NB951_970.out
 have hms34_5 := NB951_971.out
 have hs35 : w33.cell? ⟨gb951, 1, none⟩ = some (.int .i64 0) := bc BK951 1
 have hfs35 := blk_frozen BK951.out 1
 have hns35_1 := NB952_951.out
 have hns35_2 := NB953_951.out
 have hns35_3 := NB963_951.out
 have hns35_4 := NB970_951.out
 have hns35_5 := NB971_951.out
 have hms35_1 := NB951_952.out
 have hms35_2 := NB951_953.out
 have hms35_3 := NB951_963.out
 have hms35_4 := NB951_970.out
 have hms35_5 := NB951_971.out
 have hs36 : w33.cell? ⟨gb951, 2, none⟩ = some (.bool false) := bc BK951 2
 have hfs36 := blk_frozen BK951.out 2
 have hns36_1 := NB952_951.out
 have hns36_2 := NB953_951.out
 have hns36_3 := NB963_951.out
 have hns36_4 := NB970_951.out
 have hns36_5 := NB971_951.out
 have hms36_1 := NB951_952.out
 have hms36_2 := NB951_953.out
 have hms36_3 := NB951_963.out
 have hms36_4 := NB951_970.out
 have hms36_5 := NB951_971.out
 refine skip_ (w1 := ?_) (by rfl) rfl ?_ ?_
 rotate_left
 ·go_simp
  rfl
 refine hK.out _ _ ⟨((cell_far (p := ⟨gb951, _, none⟩) NB970_951.out _).trans (((cell_far (p := ⟨gb951, _, none⟩) NB970_951.out _).trans (((cell_far (p := ⟨gb951, _, none⟩) NB970_951.out _).trans (hHeld.1)))))), ((cell_far (p := ⟨gb951, _, none⟩) NB970_951.out _).trans (((cell_far (p := ⟨gb951, _, none⟩) NB970_951.out _).trans (((cell_far (p := ⟨gb951, _, none⟩) NB970_951.out _).trans (hHeld.2.1)))))), ((cell_far (p := ⟨gb951, _, none⟩) NB970_951.out _).trans (((cell_far (p := ⟨gb951, _, none⟩) NB970_951.out _).trans (((cell_far (p := ⟨gb951, _, none⟩) NB970_951.out _).trans (hHeld.2.2.1)))))), ((cell_far (p := ⟨gb951, _, none⟩) NB971_951.out _).trans (((cell_far (p := ⟨gb951, _, none⟩) NB971_951.out _).trans (((cell_far (p := ⟨gb951, _, none⟩) NB971_951.out _).trans (hHeld.2.2.2.1)))))), ((cell_far (p := ⟨gb951, _, none⟩) NB971_951.out _).trans (((cell_far (p := ⟨gb951, _, none⟩) NB971_951.out _).trans (((cell_far (p := ⟨gb951, _, none⟩) NB971_951.out _).trans (hHeld.2.2.2.2.1)))))), ((cell_far (p := ⟨gb951, _, none⟩) NB971_951.out _).trans (((cell_far (p := ⟨gb951, _, none⟩) NB971_951.out _).trans (((cell_far (p := ⟨gb951, _, none⟩) NB971_951.out _).trans (hHeld.2.2.2.2.2.1)))))), ((cell_far (p := ⟨gb951, _, none⟩) NB963_951.out _).trans (((cell_far (p := ⟨gb951, _, none⟩) NB963_951.out _).trans (((cell_far (p := ⟨gb951, _, none⟩) NB963_951.out _).trans (hHeld.2.2.2.2.2.2.1)))))), ((cell_far (p := ⟨gb951, _, none⟩) NB963_951.out _).trans (((cell_far (p := ⟨gb951, _, none⟩) NB963_951.out _).trans (((cell_far (p := ⟨gb951, _, none⟩) NB963_951.out _).trans (hHeld.2.2.2.2.2.2.2.1)))))), ((cell_far (p := ⟨gb951, _, none⟩) NB963_951.out _).trans (((cell_far (p := ⟨gb951, _, none⟩) NB963_951.out _).trans (((cell_far (p := ⟨gb951, _, none⟩) NB963_951.out _).trans (hHeld.2.2.2.2.2.2.2.2))))))⟩ (fun hHeld => ?_)
 clear hK K
 refine one_ (i := 4) (N := none) #[true, true, true, true, true, false] rfl rfl (by kernel_rfl) (by decide) (fun K hK => ?_)
 have hs37 : w33.cell? ⟨gb952, 0, none⟩ = some (.int .i64 0) := bc BK952 0
 have hfs37 := blk_frozen BK952.out 0
 have hns37_0 := NB951_952.out
 have hns37_2 := NB953_952.out
 have hns37_3 := NB963_952.out
 have hns37_4 := NB970_952.out
 have hns37_5 := NB971_952.out
 have hms37_0 := NB952_951.out
 have hms37_2 := NB952_953.out
 have hms37_3 := NB952_963.out
 have hms37_4 := NB952_970.out
 have hms37_5 := NB952_971.out
 have hs38 : w33.cell? ⟨gb952, 1, none⟩ = some (.int .i64 0) := bc BK952 1
 have hfs38 := blk_frozen BK952.out 1
 have hns38_0 := NB951_952.out
 have hns38_2 := NB953_952.out
 have hns38_3 := NB963_952.out
 have hns38_4 := NB970_952.out
 have hns38_5 := NB971_952.out
 have hms38_0 := NB952_951.out
 have hms38_2 := NB952_953.out
 have hms38_3 := NB952_963.out
 have hms38_4 := NB952_970.out
 have hms38_5 := NB952_971.out
 have hs39 : w33.cell? ⟨gb952, 2, none⟩ = some (.bool false) := bc BK952 2
 have hfs39 := blk_frozen BK952.out 2
 have hns39_0 := NB951_952.out
 have hns39_2 := NB953_952.out
 have hns39_3 := NB963_952.out
 have hns39_4 := NB970_952.out
 have hns39_5 := NB971_952.out
 have hms39_0 := NB952_951.out
 have hms39_2 := NB952_953.out
 have hms39_3 := NB952_963.out
 have hms39_4 := NB952_970.out
 have hms39_5 := NB952_971.out
 refine skip_ (w1 := ?_) (by rfl) rfl ?_ ?_
 rotate_left
 ·go_simp
  rfl
 refine hK.out _ _ ⟨((cell_far (p := ⟨gb952, _, none⟩) NB970_952.out _).trans (((cell_far (p := ⟨gb952, _, none⟩) NB970_952.out _).trans (((cell_far (p := ⟨gb952, _, none⟩) NB970_952.out _).trans (hHeld.1)))))), ((cell_far (p := ⟨gb952, _, none⟩) NB970_952.out _).trans (((cell_far (p := ⟨gb952, _, none⟩) NB970_952.out _).trans (((cell_far (p := ⟨gb952, _, none⟩) NB970_952.out _).trans (hHeld.2.1)))))), ((cell_far (p := ⟨gb952, _, none⟩) NB970_952.out _).trans (((cell_far (p := ⟨gb952, _, none⟩) NB970_952.out _).trans (((cell_far (p := ⟨gb952, _, none⟩) NB970_952.out _).trans (hHeld.2.2.1)))))), ((cell_far (p := ⟨gb952, _, none⟩) NB971_952.out _).trans (((cell_far (p := ⟨gb952, _, none⟩) NB971_952.out _).trans (((cell_far (p := ⟨gb952, _, none⟩) NB971_952.out _).trans (hHeld.2.2.2.1)))))), ((cell_far (p := ⟨gb952, _, none⟩) NB971_952.out _).trans (((cell_far (p := ⟨gb952, _, none⟩) NB971_952.out _).trans (((cell_far (p := ⟨gb952, _, none⟩) NB971_952.out _).trans (hHeld.2.2.2.2.1)))))), ((cell_far (p := ⟨gb952, _, none⟩) NB971_952.out _).trans (((cell_far (p := ⟨gb952, _, none⟩) NB971_952.out _).trans (((cell_far (p := ⟨gb952, _, none⟩) NB971_952.out _).trans (hHeld.2.2.2.2.2.1)))))), ((cell_far (p := ⟨gb952, _, none⟩) NB963_952.out _).trans (((cell_far (p := ⟨gb952, _, none⟩) NB963_952.out _).trans (((cell_far (p := ⟨gb952, _, none⟩) NB963_952.out _).trans (hHeld.2.2.2.2.2.2.1)))))), ((cell_far (p := ⟨gb952, _, none⟩) NB963_952.out _).trans (((cell_far (p := ⟨gb952, _, none⟩) NB963_952.out _).trans (((cell_far (p := ⟨gb952, _, none⟩) NB963_952.out _).trans (hHeld.2.2.2.2.2.2.2.1)))))), ((cell_far (p := ⟨gb952, _, none⟩) NB963_952.out _).trans (((cell_far (p := ⟨gb952, _, none⟩) NB963_952.out _).trans (((cell_far (p := ⟨gb952, _, none⟩) NB963_952.out _).trans (hHeld.2.2.2.2.2.2.2.2))))))⟩ (fun hHeld => ?_)
 clear hK K
 refine one_ (i := 5) (N := none) #[true, true, true, true, true, true] rfl rfl (by kernel_rfl) (by decide) (fun K hK => ?_)
 have hs40 : w33.cell? ⟨gb953, 0, none⟩ = some (.int .i64 0) := bc BK953 0
 have hfs40 := blk_frozen BK953.out 0
 have hns40_0 := NB951_953.out
 have hns40_1 := NB952_953.out
 have hns40_3 := NB963_953.out
 have hns40_4 := NB970_953.out
 have hns40_5 := NB971_953.out
 have hms40_0 := NB953_951.out
 have hms40_1 := NB953_952.out
 have hms40_3 := NB953_963.out
 have hms40_4 := NB953_970.out
 have hms40_5 := NB953_971.out
 have hs41 : w33.cell? ⟨gb953, 1, none⟩ = some (.int .i64 0) := bc BK953 1
 have hfs41 := blk_frozen BK953.out 1
 have hns41_0 := NB951_953.out
 have hns41_1 := NB952_953.out
 have hns41_3 := NB963_953.out
 have hns41_4 := NB970_953.out
 have hns41_5 := NB971_953.out
 have hms41_0 := NB953_951.out
 have hms41_1 := NB953_952.out
 have hms41_3 := NB953_963.out
 have hms41_4 := NB953_970.out
 have hms41_5 := NB953_971.out
 have hs42 : w33.cell? ⟨gb953, 2, none⟩ = some (.bool false) := bc BK953 2
 have hfs42 := blk_frozen BK953.out 2
 have hns42_0 := NB951_953.out
 have hns42_1 := NB952_953.out
 have hns42_3 := NB963_953.out
 have hns42_4 := NB970_953.out
 have hns42_5 := NB971_953.out
 have hms42_0 := NB953_951.out
 have hms42_1 := NB953_952.out
 have hms42_3 := NB953_963.out
 have hms42_4 := NB953_970.out
 have hms42_5 := NB953_971.out
 refine skip_ (w1 := ?_) (by rfl) rfl ?_ ?_
 rotate_left
 ·go_simp
  rfl
 refine hK.out _ _ ⟨((cell_far (p := ⟨gb953, _, none⟩) NB970_953.out _).trans (((cell_far (p := ⟨gb953, _, none⟩) NB970_953.out _).trans (((cell_far (p := ⟨gb953, _, none⟩) NB970_953.out _).trans (hHeld.1)))))), ((cell_far (p := ⟨gb953, _, none⟩) NB970_953.out _).trans (((cell_far (p := ⟨gb953, _, none⟩) NB970_953.out _).trans (((cell_far (p := ⟨gb953, _, none⟩) NB970_953.out _).trans (hHeld.2.1)))))), ((cell_far (p := ⟨gb953, _, none⟩) NB970_953.out _).trans (((cell_far (p := ⟨gb953, _, none⟩) NB970_953.out _).trans (((cell_far (p := ⟨gb953, _, none⟩) NB970_953.out _).trans (hHeld.2.2.1)))))), ((cell_far (p := ⟨gb953, _, none⟩) NB971_953.out _).trans (((cell_far (p := ⟨gb953, _, none⟩) NB971_953.out _).trans (((cell_far (p := ⟨gb953, _, none⟩) NB971_953.out _).trans (hHeld.2.2.2.1)))))), ((cell_far (p := ⟨gb953, _, none⟩) NB971_953.out _).trans (((cell_far (p := ⟨gb953, _, none⟩) NB971_953.out _).trans (((cell_far (p := ⟨gb953, _, none⟩) NB971_953.out _).trans (hHeld.2.2.2.2.1)))))), ((cell_far (p := ⟨gb953, _, none⟩) NB971_953.out _).trans (((cell_far (p := ⟨gb953, _, none⟩) NB971_953.out _).trans (((cell_far (p := ⟨gb953, _, none⟩) NB971_953.out _).trans (hHeld.2.2.2.2.2.1)))))), ((cell_far (p := ⟨gb953, _, none⟩) NB963_953.out _).trans (((cell_far (p := ⟨gb953, _, none⟩) NB963_953.out _).trans (((cell_far (p := ⟨gb953, _, none⟩) NB963_953.out _).trans (hHeld.2.2.2.2.2.2.1)))))), ((cell_far (p := ⟨gb953, _, none⟩) NB963_953.out _).trans (((cell_far (p := ⟨gb953, _, none⟩) NB963_953.out _).trans (((cell_far (p := ⟨gb953, _, none⟩) NB963_953.out _).trans (hHeld.2.2.2.2.2.2.2.1)))))), ((cell_far (p := ⟨gb953, _, none⟩) NB963_953.out _).trans (((cell_far (p := ⟨gb953, _, none⟩) NB963_953.out _).trans (((cell_far (p := ⟨gb953, _, none⟩) NB963_953.out _).trans (hHeld.2.2.2.2.2.2.2.2))))))⟩ (fun hHeld => ?_)
 clear hK K
 refine done_ (by kernel_rfl) ?_
 try go_wp2
 refine bodyPost_ret (results_list (rs := [.cell 2 25, .cell 3 25, .cell 4 25]) rfl (by simp) (.cell gb951 25 #[.int .i64 t964, .int .i64 t965, .bool t966] (0, 0) _ rfl (bU BK951) Try.underlying25 rfl (by kernel_rfl) (.cell gb952 25 #[.int .i64 t967, .int .i64 t968, .bool t969] (0, 0) _ rfl (bU BK952) Try.underlying25 rfl (by kernel_rfl) (.cell gb953 25 #[.int .i64 t958, .int .i64 t959, .bool t960] (0, 0) _ rfl (bU BK953) Try.underlying25 rfl (by kernel_rfl) .nil)))) rfl ?_
 exact ⟨by first | rfl | (simp [errW_none, errW_some] <;> rfl) | (simp [*, errW_none, errW_some] <;> rfl), by repeat (first | (with_reducible first | exact HB.out | apply below_alloc | apply pw_below_drewN | apply below_drew1 | refine below_set ?_ (IsS89.ge HI957.out) | refine below_set ?_ GE951.out | refine below_set ?_ GE952.out | refine below_set ?_ GE953.out | refine below_set ?_ GE963.out | refine below_set ?_ GE970.out | refine below_set ?_ GE971.out) | exact HB.out)⟩
/-! ### spec_DrawMiller: function 58 -/
def spec_DrawMiller.f (k : Nat) (l0 : List Int) : Option (Int × Int × Bool × Int × Int × Bool) := (spec_l07Pair.f k l0).bind fun bt974 => (some (bt974.1, bt974.2.1, bt974.2.2.1, bt974.2.2.2.1, bt974.2.2.2.2.1, bt974.2.2.2.2.2))
theorem spec_DrawMiller.mono : ∀ a0 k, LeO (spec_DrawMiller.f k a0) (spec_DrawMiller.f (k + 1) a0) := by
 intro a0 k
 unfold spec_DrawMiller.f
 repeat' first
   | (with_reducible exact spec_l07Pair.mono _ _)
   | (with_reducible exact LeO.refl _)
   | (with_reducible exact LeO.none _)
   | (with_reducible refine LeO.ite ?_ ?_)
   | (with_reducible refine LeO.bind ?_ (fun _ => ?_))
   | exact spec_l07Pair.mono _ _
   | exact LeO.none _
   | refine LeO.ite ?_ ?_
   | refine LeO.bind ?_ (fun _ => ?_)
set_option maxHeartbeats 8000000 in
set_option maxRecDepth 100000 in
theorem spec_DrawMiller.calls (k : Nat) (A0 : Option Addr) (c0 : Nat) (l0 : List Int) (r1 : Int) (r2 : Int) (r3 : Bool) (r4 : Int) (r5 : Int) (r6 : Bool) (w : World) (hr0 : Kd.C (Kd.int .u8) w A0 l0.length l0) (hc0 : l0.length ≤ c0) (h : spec_DrawMiller.f k l0 = some (r1, r2, r3, r4, r5, r6)) :
  Calls Try.prog 58 #[.slice A0 l0.length c0] w fun e w' => e = .returned (.tuple #[.agg #[.int .i64 r1, .int .i64 r2, .bool r3], .agg #[.int .i64 r4, .int .i64 r5, .bool r6]]) ∧ Below w.heap.size w w' := by
 have hu25 := Try.underlying25
 have HR0 := Aside0.mk hr0
 have HC0 := Aside0.mk hc0
 clear hr0 hc0
 have HB := Aside0.mk (Below.refl w.heap.size w)
 have H : ((spec_l07Pair.f k l0).bind fun bt974 => (some (bt974.1, bt974.2.1, bt974.2.2.1, bt974.2.2.2.1, bt974.2.2.2.2.1, bt974.2.2.2.2.2))) = some (r1, r2, r3, r4, r5, r6) := h
 clear h
 replace H := Option.bind_eq_some_iff.mp H
 obtain ⟨⟨t974, t975, t976, t977, t978, t979⟩, A20, H⟩ := H
 have A2 := Aside0.mk A20
 clear A20
 simp only [Option.some.injEq, Prod.mk.injEq] at H
 obtain ⟨rfl, rfl, rfl, rfl, rfl, rfl⟩ := H
 go_enter Try.func58, Try.ntmps58
 go_wp2_with (first | ((with_reducible refine gate_dst (N := 2) rfl ?_); refine bE 2 #[.int .i64 0, .int .i64 0, .bool false] 25 ?_; intro gb972 hg w3 hbox hb; have BK972 := Aside0.mk (hbox); have GW972 := bG HB hg; have GE972 := bG HB hg; replace HB := bS HB hb; clear hb hbox hg) | ((with_reducible refine gate_dst (N := 3) rfl ?_); refine bE 3 #[.int .i64 0, .int .i64 0, .bool false] 25 ?_; intro gb973 hg w4 hbox hb; have BK973 := Aside0.mk (hbox); have GW973 := bG HB hg; have GE973 := bG HB hg; replace HB := bS HB hb; have NB972_973 := bL BK972 hg; have NB973_972 := bR BK972 hg; replace BK972 := bB BK972 hb; clear hb hbox hg) | ((with_reducible refine gate_callee (f := 96) rfl ?_); refine gL (some 5) Try.func96 #[.slice A0 l0.length c0] ?_; (with_reducible refine (spec_l07Pair.calls k _ _ l0 t974 t975 t976 t977 t978 t979 _ ?side1 ?side2 A2.out).mono ?_); (case side1 => exact cP (Kd.C_below HR0.out HB.out)); (case side2 => exact HC0.out); rintro e w5 ⟨rfl, hb⟩; refine ⟨_, rfl, ?_⟩; replace BK972 := bB BK972 hb; replace BK973 := bB BK973 hb; replace HB := bS HB hb; (try clear hb); obtain ⟨hnb6, hnc6⟩ := nB NB972_973; obtain ⟨hcz7_0, hcz7_1, hcz7_2, hfz7_0, hfz7_1, hfz7_2⟩ := bK3 (w := w5) BK972; obtain ⟨hcz8_0, hcz8_1, hcz8_2, hfz8_0, hfz8_1, hfz8_2⟩ := bK3 (w := w5) BK973))
 refine bodyPost_ret (results_cc rfl _ _ gb972 gb973 25 25 #[.int .i64 t974, .int .i64 t975, .bool t976] #[.int .i64 t977, .int .i64 t978, .bool t979] (0, 0) (0, 0) _ _ rfl (bU BK972) Try.underlying25 rfl (by kernel_rfl) rfl (bU BK973) Try.underlying25 rfl (by kernel_rfl)) rfl ?_
 exact ⟨rR, bZ HB⟩
end Go.Proofs.Ytmbjefdkjdemhaa.Pf
end
section
namespace Go.Proofs.Ytmbjefdkjdemhaa.Pf
open Go.RowKit Go.Proofs.YtmbjefdkjdemhaaW.PrintWords Go.Proofs.YtmbjefdkjdemhaaW.PrintLast Go.Proofs.YtmbjefdkjdemhaaW.PrintMore
attribute [local go_sem] max2_int min2_int max_two min_two max_three min_three max_four min_four   -- for this text's walks alone
set_option linter.unusedVariables false
set_option linter.unusedSimpArgs false
attribute [local go_sem high] eqA31
/-! ### laws_FnPairsKnown: function 13 -/
def laws_FnPairsKnown.f (k : Nat) (l0 : List Int) : Option (Bool) := (laws_big.f l0).bind fun t980 => (if t980 = true then (some true) else ((spec_DrawGroup.f k l0).bind fun bt981 => ((impl_Pairing.f k bt981.1 bt981.2.1 bt981.2.2.1 bt981.2.2.2.1 bt981.2.2.2.2.1 bt981.2.2.2.2.2.1).bind fun bt994 => ((spec_DrawPairsRight.f k l0).bind fun bt997 => ((spec_DrawPairLine.f k l0).bind fun bt1003 => ((spec_DrawMiller.f k l0).bind fun bt1015 => (if bt981.2.2.1 = true then (if ((bt994.1 == 1 && (bt994.2 == 0)) == true) = true then ((impl_PointNeg.f bt981.1 bt981.2.1 bt981.2.2.1).bind fun bt1023 => ((impl_PairsRight.f k (([(⟨bt981.1, bt981.2.1, bt981.2.2.1⟩ : S25), (⟨bt1023.1, bt1023.2.1, bt1023.2.2⟩ : S25)] : List (S25))) (([(⟨bt981.2.2.2.1, bt981.2.2.2.2.1, bt981.2.2.2.2.2.1⟩ : S25), (⟨bt981.2.2.2.1, bt981.2.2.2.2.1, bt981.2.2.2.2.2.1⟩ : S25)] : List (S25)))).bind fun t1032 => (if t1032 = true then ((impl_PairsRight.f k bt997.1 bt997.2).bind fun t1033 => ((spec_PairsRight.f k bt997.1 bt997.2).bind fun t1034 => (if (t1033 == t1034) = true then ((impl_PairLine.f k bt1003.1 bt1003.2.1 bt1003.2.2.1 bt1003.2.2.2.1 bt1003.2.2.2.2.1 bt1003.2.2.2.2.2.1 bt1003.2.2.2.2.2.2.1 bt1003.2.2.2.2.2.2.2.1 bt1003.2.2.2.2.2.2.2.2).bind fun bt1035 => ((spec_PairLine.f k bt1003.1 bt1003.2.1 bt1003.2.2.1 bt1003.2.2.2.1 bt1003.2.2.2.2.1 bt1003.2.2.2.2.2.1 bt1003.2.2.2.2.2.2.1 bt1003.2.2.2.2.2.2.2.1 bt1003.2.2.2.2.2.2.2.2).bind fun bt1037 => (if (bt1035.1 == bt1037.1 && (bt1035.2 == bt1037.2)) = true then ((impl_Miller.f k bt1015.1 bt1015.2.1 bt1015.2.2.1 bt1015.2.2.2.1 bt1015.2.2.2.2.1 bt1015.2.2.2.2.2).bind fun bt1039 => ((spec_Miller.f k bt1015.1 bt1015.2.1 bt1015.2.2.1 bt1015.2.2.2.1 bt1015.2.2.2.2.1 bt1015.2.2.2.2.2).bind fun bt1041 => (if (bt1039.1 == bt1041.1 && (bt1039.2 == bt1041.2)) = true then ((impl_Base.f).bind fun bt1043 => ((impl_Base.f).bind fun bt1046 => ((impl_Pairing.f k bt1043.1 bt1043.2.1 bt1043.2.2 bt1046.1 bt1046.2.1 bt1046.2.2).bind fun bt1049 => (some (bt1049.1 == 372 && (bt1049.2 == 3632)))))) else (some false)))) else (some false)))) else (some false)))) else (some false)))) else (some false)) else (if ((bt994.1 == 1 && (bt994.2 == 0)) == bt981.2.2.2.2.2.1) = true then ((impl_PointNeg.f bt981.1 bt981.2.1 bt981.2.2.1).bind fun bt1051 => ((impl_PairsRight.f k (([(⟨bt981.1, bt981.2.1, bt981.2.2.1⟩ : S25), (⟨bt1051.1, bt1051.2.1, bt1051.2.2⟩ : S25)] : List (S25))) (([(⟨bt981.2.2.2.1, bt981.2.2.2.2.1, bt981.2.2.2.2.2.1⟩ : S25), (⟨bt981.2.2.2.1, bt981.2.2.2.2.1, bt981.2.2.2.2.2.1⟩ : S25)] : List (S25)))).bind fun t1060 => (if t1060 = true then ((impl_PairsRight.f k bt997.1 bt997.2).bind fun t1061 => ((spec_PairsRight.f k bt997.1 bt997.2).bind fun t1062 => (if (t1061 == t1062) = true then ((impl_PairLine.f k bt1003.1 bt1003.2.1 bt1003.2.2.1 bt1003.2.2.2.1 bt1003.2.2.2.2.1 bt1003.2.2.2.2.2.1 bt1003.2.2.2.2.2.2.1 bt1003.2.2.2.2.2.2.2.1 bt1003.2.2.2.2.2.2.2.2).bind fun bt1063 => ((spec_PairLine.f k bt1003.1 bt1003.2.1 bt1003.2.2.1 bt1003.2.2.2.1 bt1003.2.2.2.2.1 bt1003.2.2.2.2.2.1 bt1003.2.2.2.2.2.2.1 bt1003.2.2.2.2.2.2.2.1 bt1003.2.2.2.2.2.2.2.2).bind fun bt1065 => (if (bt1063.1 == bt1065.1 && (bt1063.2 == bt1065.2)) = true then ((impl_Miller.f k bt1015.1 bt1015.2.1 bt1015.2.2.1 bt1015.2.2.2.1 bt1015.2.2.2.2.1 bt1015.2.2.2.2.2).bind fun bt1067 => ((spec_Miller.f k bt1015.1 bt1015.2.1 bt1015.2.2.1 bt1015.2.2.2.1 bt1015.2.2.2.2.1 bt1015.2.2.2.2.2).bind fun bt1069 => (if (bt1067.1 == bt1069.1 && (bt1067.2 == bt1069.2)) = true then ((impl_Base.f).bind fun bt1071 => ((impl_Base.f).bind fun bt1074 => ((impl_Pairing.f k bt1071.1 bt1071.2.1 bt1071.2.2 bt1074.1 bt1074.2.1 bt1074.2.2).bind fun bt1077 => (some (bt1077.1 == 372 && (bt1077.2 == 3632)))))) else (some false)))) else (some false)))) else (some false)))) else (some false)))) else (some false)))))))))
theorem laws_FnPairsKnown.mono : ∀ a0 k, LeO (laws_FnPairsKnown.f k a0) (laws_FnPairsKnown.f (k + 1) a0) := by
 intro a0 k
 unfold laws_FnPairsKnown.f
 repeat' first
   | (with_reducible exact impl_Miller.mono _ _ _ _ _ _ _)
   | (with_reducible exact impl_PairLine.mono _ _ _ _ _ _ _ _ _ _)
   | (with_reducible exact impl_Pairing.mono _ _ _ _ _ _ _)
   | (with_reducible exact impl_PairsRight.mono _ _ _)
   | (with_reducible exact spec_DrawGroup.mono _ _)
   | (with_reducible exact spec_DrawMiller.mono _ _)
   | (with_reducible exact spec_DrawPairLine.mono _ _)
   | (with_reducible exact spec_DrawPairsRight.mono _ _)
   | (with_reducible exact spec_Miller.mono _ _ _ _ _ _ _)
   | (with_reducible exact spec_PairLine.mono _ _ _ _ _ _ _ _ _ _)
   | (with_reducible exact spec_PairsRight.mono _ _ _)
   | (with_reducible exact LeO.refl _)
   | (with_reducible exact LeO.none _)
   | (with_reducible refine LeO.ite ?_ ?_)
   | (with_reducible refine LeO.bind ?_ (fun _ => ?_))
   | exact impl_Miller.mono _ _ _ _ _ _ _
   | exact impl_PairLine.mono _ _ _ _ _ _ _ _ _ _
   | exact impl_Pairing.mono _ _ _ _ _ _ _
   | exact impl_PairsRight.mono _ _ _
   | exact spec_DrawGroup.mono _ _
   | exact spec_DrawMiller.mono _ _
   | exact spec_DrawPairLine.mono _ _
   | exact spec_DrawPairsRight.mono _ _
   | exact spec_Miller.mono _ _ _ _ _ _ _
   | exact spec_PairLine.mono _ _ _ _ _ _ _ _ _ _
   | exact spec_PairsRight.mono _ _ _
   | exact LeO.none _
   | refine LeO.ite ?_ ?_
   | refine LeO.bind ?_ (fun _ => ?_)
def laws_FnPairsKnown.T9 : Bool × List (List Nat × List Nat) := (true, [([], []), ([], []), ([0, 1], [0, 1]), ([], []), ([3], [3]), ([4], [4]), ([5], [5]), ([6, 5], [5, 6]), ([5, 7], [5, 7]), ([2, 8], [2, 8]), ([9, 5], [9]), ([10], [10]), ([10], [10]), ([12, 10, 10], [10, 12]), ([11, 13, 10], [10, 11, 13]), ([10], [10]), ([10], [10]), ([15, 16, 10], [10, 15, 16]), ([14, 17, 13, 10], [10, 14, 17]), ([10, 18], [10, 18]), ([19, 18], [19]), ([20], [20]), ([20], [20]), ([21, 22, 20, 20], [20, 21, 22]), ([20], [20]), ([20], [20]), ([24, 25, 23, 20], [20, 24, 25]), ([23, 26, 20], [20, 23, 26]), ([20, 27], [20, 27]), ([28, 26], [28]), ([29], [29]), ([29], [29]), ([29], [29]), ([30, 31, 32, 29, 29], [29, 30, 31, 32]), ([29], [29]), ([29], [29]), ([29], [29]), ([34, 35, 36, 33, 29], [29, 34, 35, 36]), ([33, 37, 29], [29, 33, 37]), ([29, 38], [29, 38]), ([39, 37], [39]), ([40], [40]), ([40], [40]), ([41, 42, 40, 40], [40, 41, 42]), ([40], [40]), ([40], [40]), ([44, 45, 43, 40], [40, 44, 45]), ([43, 46, 40], [40, 43, 46]), ([40, 47], [40, 47]), ([48, 46], [48]), ([49, 49], [49]), ([50, 49], [49]), ([50, 51, 51, 49], [49, 50, 51]), ([49], [49]), ([52, 53, 49], [49, 52, 53]), ([49, 54], [49, 54]), ([55, 52, 0, 1, 2, 3, 4, 5, 6, 7, 8, 9, 10, 11, 12, 13, 14, 15, 16, 17, 18, 19, 20, 21, 22, 23, 24, 25, 26, 27, 28, 29, 30, 31, 32, 33, 34, 35, 36, 37, 38, 39, 40, 41, 42, 43, 44, 45, 46, 47, 48, 49, 50, 51, 52, 53, 54, 55], [55])])
def laws_FnPairsKnown.B9 : List Nat := [0, 0, 3, 0, 8, 24, 56, 120, 248, 511, 1023, 2047, 2047, 6143, 16383, 2047, 2047, 100351, 262143, 524287, 1048575, 2097151, 2097151, 8388607, 2097151, 2097151, 67108863, 134217727, 268435455, 536870911, 1073741823, 1073741823, 1073741823, 8589934591, 1073741823, 1073741823, 1073741823, 137438953471, 274877906943, 549755813887, 1099511627775, 2199023255551, 2199023255551, 8796093022207, 2199023255551, 2199023255551, 70368744177663, 140737488355327, 281474976710655, 562949953421311, 1125899906842623, 2251799813685247, 4503599627370495, 1125899906842623, 18014398509481983, 36028797018963967, 72057594037927935]
theorem laws_FnPairsKnown.tab9 : rtab .any (opsOf Try.f13 9) = laws_FnPairsKnown.T9 := by kernel_rfl
theorem laws_FnPairsKnown.bits9 : waitsOk laws_FnPairsKnown.T9.2 laws_FnPairsKnown.B9 = true := by kernel_rfl
set_option maxHeartbeats 8000000 in
set_option maxRecDepth 100000 in
theorem laws_FnPairsKnown.calls (k : Nat) (A0 : Option Addr) (c0 : Nat) (l0 : List Int) (r : Bool) (w : World) (hr0 : Kd.C (Kd.int .u8) w A0 l0.length l0) (hc0 : l0.length ≤ c0) (htrue : Aside0 (r = true)) (h : laws_FnPairsKnown.f k l0 = some r) :
  Calls Try.prog 13 #[.slice A0 l0.length c0] w fun e w' => e = .returned (.bool r) ∧ Below w.heap.size w w' := by
 have hu25 := Try.underlying25
 have hu31 := Try.underlying31
 have HR0 := Aside0.mk hr0
 have HC0 := Aside0.mk hc0
 clear hr0 hc0
 have HB := Aside0.mk (Below.refl w.heap.size w)
 have H : ((laws_big.f l0).bind fun t980 => (if t980 = true then (some true) else ((spec_DrawGroup.f k l0).bind fun bt981 => ((impl_Pairing.f k bt981.1 bt981.2.1 bt981.2.2.1 bt981.2.2.2.1 bt981.2.2.2.2.1 bt981.2.2.2.2.2.1).bind fun bt994 => ((spec_DrawPairsRight.f k l0).bind fun bt997 => ((spec_DrawPairLine.f k l0).bind fun bt1003 => ((spec_DrawMiller.f k l0).bind fun bt1015 => (if bt981.2.2.1 = true then (if ((bt994.1 == 1 && (bt994.2 == 0)) == true) = true then ((impl_PointNeg.f bt981.1 bt981.2.1 bt981.2.2.1).bind fun bt1023 => ((impl_PairsRight.f k (([(⟨bt981.1, bt981.2.1, bt981.2.2.1⟩ : S25), (⟨bt1023.1, bt1023.2.1, bt1023.2.2⟩ : S25)] : List (S25))) (([(⟨bt981.2.2.2.1, bt981.2.2.2.2.1, bt981.2.2.2.2.2.1⟩ : S25), (⟨bt981.2.2.2.1, bt981.2.2.2.2.1, bt981.2.2.2.2.2.1⟩ : S25)] : List (S25)))).bind fun t1032 => (if t1032 = true then ((impl_PairsRight.f k bt997.1 bt997.2).bind fun t1033 => ((spec_PairsRight.f k bt997.1 bt997.2).bind fun t1034 => (if (t1033 == t1034) = true then ((impl_PairLine.f k bt1003.1 bt1003.2.1 bt1003.2.2.1 bt1003.2.2.2.1 bt1003.2.2.2.2.1 bt1003.2.2.2.2.2.1 bt1003.2.2.2.2.2.2.1 bt1003.2.2.2.2.2.2.2.1 bt1003.2.2.2.2.2.2.2.2).bind fun bt1035 => ((spec_PairLine.f k bt1003.1 bt1003.2.1 bt1003.2.2.1 bt1003.2.2.2.1 bt1003.2.2.2.2.1 bt1003.2.2.2.2.2.1 bt1003.2.2.2.2.2.2.1 bt1003.2.2.2.2.2.2.2.1 bt1003.2.2.2.2.2.2.2.2).bind fun bt1037 => (if (bt1035.1 == bt1037.1 && (bt1035.2 == bt1037.2)) = true then ((impl_Miller.f k bt1015.1 bt1015.2.1 bt1015.2.2.1 bt1015.2.2.2.1 bt1015.2.2.2.2.1 bt1015.2.2.2.2.2).bind fun bt1039 => ((spec_Miller.f k bt1015.1 bt1015.2.1 bt1015.2.2.1 bt1015.2.2.2.1 bt1015.2.2.2.2.1 bt1015.2.2.2.2.2).bind fun bt1041 => (if (bt1039.1 == bt1041.1 && (bt1039.2 == bt1041.2)) = true then ((impl_Base.f).bind fun bt1043 => ((impl_Base.f).bind fun bt1046 => ((impl_Pairing.f k bt1043.1 bt1043.2.1 bt1043.2.2 bt1046.1 bt1046.2.1 bt1046.2.2).bind fun bt1049 => (some (bt1049.1 == 372 && (bt1049.2 == 3632)))))) else (some false)))) else (some false)))) else (some false)))) else (some false)))) else (some false)) else (if ((bt994.1 == 1 && (bt994.2 == 0)) == bt981.2.2.2.2.2.1) = true then ((impl_PointNeg.f bt981.1 bt981.2.1 bt981.2.2.1).bind fun bt1051 => ((impl_PairsRight.f k (([(⟨bt981.1, bt981.2.1, bt981.2.2.1⟩ : S25), (⟨bt1051.1, bt1051.2.1, bt1051.2.2⟩ : S25)] : List (S25))) (([(⟨bt981.2.2.2.1, bt981.2.2.2.2.1, bt981.2.2.2.2.2.1⟩ : S25), (⟨bt981.2.2.2.1, bt981.2.2.2.2.1, bt981.2.2.2.2.2.1⟩ : S25)] : List (S25)))).bind fun t1060 => (if t1060 = true then ((impl_PairsRight.f k bt997.1 bt997.2).bind fun t1061 => ((spec_PairsRight.f k bt997.1 bt997.2).bind fun t1062 => (if (t1061 == t1062) = true then ((impl_PairLine.f k bt1003.1 bt1003.2.1 bt1003.2.2.1 bt1003.2.2.2.1 bt1003.2.2.2.2.1 bt1003.2.2.2.2.2.1 bt1003.2.2.2.2.2.2.1 bt1003.2.2.2.2.2.2.2.1 bt1003.2.2.2.2.2.2.2.2).bind fun bt1063 => ((spec_PairLine.f k bt1003.1 bt1003.2.1 bt1003.2.2.1 bt1003.2.2.2.1 bt1003.2.2.2.2.1 bt1003.2.2.2.2.2.1 bt1003.2.2.2.2.2.2.1 bt1003.2.2.2.2.2.2.2.1 bt1003.2.2.2.2.2.2.2.2).bind fun bt1065 => (if (bt1063.1 == bt1065.1 && (bt1063.2 == bt1065.2)) = true then ((impl_Miller.f k bt1015.1 bt1015.2.1 bt1015.2.2.1 bt1015.2.2.2.1 bt1015.2.2.2.2.1 bt1015.2.2.2.2.2).bind fun bt1067 => ((spec_Miller.f k bt1015.1 bt1015.2.1 bt1015.2.2.1 bt1015.2.2.2.1 bt1015.2.2.2.2.1 bt1015.2.2.2.2.2).bind fun bt1069 => (if (bt1067.1 == bt1069.1 && (bt1067.2 == bt1069.2)) = true then ((impl_Base.f).bind fun bt1071 => ((impl_Base.f).bind fun bt1074 => ((impl_Pairing.f k bt1071.1 bt1071.2.1 bt1071.2.2 bt1074.1 bt1074.2.1 bt1074.2.2).bind fun bt1077 => (some (bt1077.1 == 372 && (bt1077.2 == 3632)))))) else (some false)))) else (some false)))) else (some false)))) else (some false)))) else (some false)))))))))) = some r := h
 clear h
 replace H := Option.bind_eq_some_iff.mp H
 obtain ⟨t980, A20, H⟩ := H
 have A2 := Aside0.mk A20
 clear A20
 by_cases c3 : t980 = true
 ·subst c3
  rw [if_pos rfl] at H
  obtain rfl := Option.some.inj H
  go_enter Try.func13, Try.ntmps13
  go_wp2_with (first | ((with_reducible refine gate_callee (f := 14) rfl ?_); refine gL (some 16) Try.func14 #[.slice A0 l0.length c0] ?_; (with_reducible refine (laws_big.calls _ _ l0 true _ ?side1 ?side2 A2.out).mono ?_); (case side1 => exact cP HR0.out); (case side2 => exact HC0.out); rintro e w' ⟨rfl, ⟨nd, rfl⟩⟩; refine ⟨_, rfl, ?_⟩))
  go_ret
  exact ⟨rR, bZ HB⟩
 ·replace c3 := Bool.eq_false_iff.mpr c3
  subst c3
  rw [if_neg (show ¬ (false = true) by decide)] at H
  replace H := Option.bind_eq_some_iff.mp H
  obtain ⟨⟨t981, t982, t983, t984, t985, t986, t987, t988, t989⟩, A40, H⟩ := H
  have A4 := Aside0.mk A40
  clear A40
  replace H := Option.bind_eq_some_iff.mp H
  obtain ⟨⟨t994, t995⟩, A50, H⟩ := H
  have A5 := Aside0.mk A50
  clear A50
  replace H := Option.bind_eq_some_iff.mp H
  obtain ⟨⟨t997, t998⟩, A60, H⟩ := H
  have A6 := Aside0.mk A60
  clear A60
  replace H := Option.bind_eq_some_iff.mp H
  obtain ⟨⟨t1003, t1004, t1005, t1006, t1007, t1008, t1009, t1010, t1011⟩, A70, H⟩ := H
  have A7 := Aside0.mk A70
  clear A70
  replace H := Option.bind_eq_some_iff.mp H
  obtain ⟨⟨t1015, t1016, t1017, t1018, t1019, t1020⟩, A80, H⟩ := H
  have A8 := Aside0.mk A80
  clear A80
  by_cases c9 : t983 = true
  ·subst c9
   rw [if_pos rfl] at H
   by_cases c10 : ((t994 == 1 && (t995 == 0)) == true) = true
   ·rw [if_pos c10] at H
    have c10b0 : ((t994 == 1 && (t995 == 0)) == true) = true := c10
    (try (have c10b1 : decide ((t994 == 1 && (t995 == 0)) = true) = true := by simpa using c10))
    (try (have c10b2 : ((t994 == 1 && (t995 == 0)) == true) = true := by simpa using c10))
    clear c10
    replace H := Option.bind_eq_some_iff.mp H
    obtain ⟨⟨t1023, t1024, t1025⟩, A110, H⟩ := H
    have A11 := Aside0.mk A110
    clear A110
    obtain ⟨y1026, hy1026⟩ : ∃ y_ : List (S25), y_ = (([(⟨t981, t982, true⟩ : S25), (⟨t1023, t1024, t1025⟩ : S25)] : List (S25))) := ⟨_, rfl⟩
    replace H : ((impl_PairsRight.f k y1026 (([(⟨t984, t985, t986⟩ : S25), (⟨t984, t985, t986⟩ : S25)] : List (S25)))).bind fun t1032 => (if t1032 = true then ((impl_PairsRight.f k t997 t998).bind fun t1033 => ((spec_PairsRight.f k t997 t998).bind fun t1034 => (if (t1033 == t1034) = true then ((impl_PairLine.f k t1003 t1004 t1005 t1006 t1007 t1008 t1009 t1010 t1011).bind fun bt1035 => ((spec_PairLine.f k t1003 t1004 t1005 t1006 t1007 t1008 t1009 t1010 t1011).bind fun bt1037 => (if (bt1035.1 == bt1037.1 && (bt1035.2 == bt1037.2)) = true then ((impl_Miller.f k t1015 t1016 t1017 t1018 t1019 t1020).bind fun bt1039 => ((spec_Miller.f k t1015 t1016 t1017 t1018 t1019 t1020).bind fun bt1041 => (if (bt1039.1 == bt1041.1 && (bt1039.2 == bt1041.2)) = true then ((impl_Base.f).bind fun bt1043 => ((impl_Base.f).bind fun bt1046 => ((impl_Pairing.f k bt1043.1 bt1043.2.1 bt1043.2.2 bt1046.1 bt1046.2.1 bt1046.2.2).bind fun bt1049 => (some (bt1049.1 == 372 && (bt1049.2 == 3632)))))) else (some false)))) else (some false)))) else (some false)))) else (some false))) = some r := by first | (rw [hy1026]; with_reducible exact H) | (have H2_ := (Option.bind_some _ _).symm.trans H; rw [hy1026]; with_reducible exact H2_) | (have H2_ := (Option.bind_some _ _).symm.trans H; with_reducible exact H2_) | with_reducible exact H | (rw [hy1026]; exact H) | exact H
    have Ny1026 := Aside0.mk hy1026
    clear hy1026
    obtain ⟨y1029, hy1029⟩ : ∃ y_ : List (S25), y_ = (([(⟨t984, t985, t986⟩ : S25), (⟨t984, t985, t986⟩ : S25)] : List (S25))) := ⟨_, rfl⟩
    replace H : ((impl_PairsRight.f k y1026 y1029).bind fun t1032 => (if t1032 = true then ((impl_PairsRight.f k t997 t998).bind fun t1033 => ((spec_PairsRight.f k t997 t998).bind fun t1034 => (if (t1033 == t1034) = true then ((impl_PairLine.f k t1003 t1004 t1005 t1006 t1007 t1008 t1009 t1010 t1011).bind fun bt1035 => ((spec_PairLine.f k t1003 t1004 t1005 t1006 t1007 t1008 t1009 t1010 t1011).bind fun bt1037 => (if (bt1035.1 == bt1037.1 && (bt1035.2 == bt1037.2)) = true then ((impl_Miller.f k t1015 t1016 t1017 t1018 t1019 t1020).bind fun bt1039 => ((spec_Miller.f k t1015 t1016 t1017 t1018 t1019 t1020).bind fun bt1041 => (if (bt1039.1 == bt1041.1 && (bt1039.2 == bt1041.2)) = true then ((impl_Base.f).bind fun bt1043 => ((impl_Base.f).bind fun bt1046 => ((impl_Pairing.f k bt1043.1 bt1043.2.1 bt1043.2.2 bt1046.1 bt1046.2.1 bt1046.2.2).bind fun bt1049 => (some (bt1049.1 == 372 && (bt1049.2 == 3632)))))) else (some false)))) else (some false)))) else (some false)))) else (some false))) = some r := by first | (rw [hy1029]; with_reducible exact H) | (have H2_ := (Option.bind_some _ _).symm.trans H; rw [hy1029]; with_reducible exact H2_) | (have H2_ := (Option.bind_some _ _).symm.trans H; with_reducible exact H2_) | with_reducible exact H | (rw [hy1029]; exact H) | exact H
    have Ny1029 := Aside0.mk hy1029
    clear hy1029
    replace H := Option.bind_eq_some_iff.mp H
    obtain ⟨t1032, A120, H⟩ := H
    have A12 := Aside0.mk A120
    clear A120
    by_cases c13 : t1032 = true
    ·subst c13
     rw [if_pos rfl] at H
     replace H := Option.bind_eq_some_iff.mp H
     obtain ⟨t1033, A140, H⟩ := H
     have A14 := Aside0.mk A140
     clear A140
     replace H := Option.bind_eq_some_iff.mp H
     obtain ⟨t1034, A150, H⟩ := H
     have A15 := Aside0.mk A150
     clear A150
     by_cases c16 : (t1033 == t1034) = true
     ·rw [if_pos c16] at H
      have c16b0 : (t1033 == t1034) = true := c16
      (try (have c16b1 : decide (t1033 = t1034) = true := by simpa using c16))
      (try (have c16b2 : (t1033 == t1034) = true := by simpa using c16))
      clear c16
      replace H := Option.bind_eq_some_iff.mp H
      obtain ⟨⟨t1035, t1036⟩, A170, H⟩ := H
      have A17 := Aside0.mk A170
      clear A170
      replace H := Option.bind_eq_some_iff.mp H
      obtain ⟨⟨t1037, t1038⟩, A180, H⟩ := H
      have A18 := Aside0.mk A180
      clear A180
      by_cases c19 : (t1035 == t1037 && (t1036 == t1038)) = true
      ·rw [if_pos c19] at H
       have c19b0 : (t1035 == t1037 && (t1036 == t1038)) = true := c19
       (try (have c19b1 : decide (t1035 = t1037 && (t1036 == t1038)) = true := by simpa using c19))
       (try (have c19b2 : (t1035 == t1037 && (t1036 == t1038)) = true := by simpa using c19))
       clear c19
       replace H := Option.bind_eq_some_iff.mp H
       obtain ⟨⟨t1039, t1040⟩, A200, H⟩ := H
       have A20 := Aside0.mk A200
       clear A200
       replace H := Option.bind_eq_some_iff.mp H
       obtain ⟨⟨t1041, t1042⟩, A210, H⟩ := H
       have A21 := Aside0.mk A210
       clear A210
       by_cases c22 : (t1039 == t1041 && (t1040 == t1042)) = true
       ·rw [if_pos c22] at H
        have c22b0 : (t1039 == t1041 && (t1040 == t1042)) = true := c22
        (try (have c22b1 : decide (t1039 = t1041 && (t1040 == t1042)) = true := by simpa using c22))
        (try (have c22b2 : (t1039 == t1041 && (t1040 == t1042)) = true := by simpa using c22))
        clear c22
        replace H := Option.bind_eq_some_iff.mp H
        obtain ⟨⟨t1043, t1044, t1045⟩, A230, H⟩ := H
        have A23 := Aside0.mk A230
        clear A230
        replace H := Option.bind_eq_some_iff.mp H
        obtain ⟨⟨t1046, t1047, t1048⟩, A240, H⟩ := H
        have A24 := Aside0.mk A240
        clear A240
        replace H := Option.bind_eq_some_iff.mp H
        obtain ⟨⟨t1049, t1050⟩, A250, H⟩ := H
        have A25 := Aside0.mk A250
        clear A250
        obtain rfl := Option.some.inj H
        go_enter Try.func13, Try.ntmps13
        try go_wp2_with (first | ((with_reducible refine gate_callee (f := 14) rfl ?_); refine gL (some 16) Try.func14 #[.slice A0 l0.length c0] ?_; (with_reducible refine (laws_big.calls _ _ l0 false _ ?side1 ?side2 A2.out).mono ?_); (case side1 => exact cP HR0.out); (case side2 => exact HC0.out); rintro e w' ⟨rfl, ⟨nd, rfl⟩⟩; refine ⟨_, rfl, ?_⟩) | ((with_reducible refine gate_callee (f := 15) rfl ?_); refine gL (some 19) Try.func15 #[.slice A0 l0.length c0] ?_; (with_reducible refine (spec_DrawGroup.calls k _ _ l0 t981 t982 true t984 t985 t986 t987 t988 t989 _ ?side1 ?side2 A4.out).mono ?_); (case side1 => exact cP HR0.out); (case side2 => exact HC0.out); rintro e w26 ⟨rfl, hb⟩; refine ⟨_, rfl, ?_⟩; replace HB := bS HB hb; (try clear hb)) | ((with_reducible refine gate_dst (N := 3) rfl ?_); (try (refine gate_guard (by rfl) ?_; dsimp only)); refine box_event ?hg (N := 3) ?hd (cs := #[.int .i64 0, .int .i64 0, .bool false]) (t := 25) ?hr ?_; (case hd => rfl); (case hg => rfl); (case hr => first | (go_simp; done) | (go_simp; rfl)); intro gb990 hg w27 hbox hb; have BK990 := Aside0.mk (hbox); have GW990 := bG HB hg; have GE990 := bG HB hg; replace HB := bS HB hb; clear hb hbox hg) | ((with_reducible refine gate_dst (N := 4) rfl ?_); (try (refine gate_guard (by rfl) ?_; dsimp only)); refine box_event ?hg (N := 4) ?hd (cs := #[.int .i64 0, .int .i64 0, .bool false]) (t := 25) ?hr ?_; (case hd => rfl); (case hg => rfl); (case hr => first | (go_simp; done) | (go_simp; rfl)); intro gb991 hg w28 hbox hb; have BK991 := Aside0.mk (hbox); have GW991 := bG HB hg; have GE991 := bG HB hg; replace HB := bS HB hb; have NB990_991 := bL BK990 hg; have NB991_990 := bR BK990 hg; replace BK990 := bB BK990 hb; clear hb hbox hg) | ((with_reducible refine gate_dst (N := 5) rfl ?_); (try (refine gate_guard (by rfl) ?_; dsimp only)); refine box_event ?hg (N := 5) ?hd (cs := #[.int .i64 0, .int .i64 0, .bool false]) (t := 25) ?hr ?_; (case hd => rfl); (case hg => rfl); (case hr => first | (go_simp; done) | (go_simp; rfl)); intro gb992 hg w29 hbox hb; have BK992 := Aside0.mk (hbox); have GW992 := bG HB hg; have GE992 := bG HB hg; replace HB := bS HB hb; have NB990_992 := bL BK990 hg; have NB992_990 := bR BK990 hg; replace BK990 := bB BK990 hb; have NB991_992 := bL BK991 hg; have NB992_991 := bR BK991 hg; replace BK991 := bB BK991 hb; clear hb hbox hg; obtain ⟨hnb30, hnc30⟩ := nB NB990_991; obtain ⟨hnb31, hnc31⟩ := nB NB990_992; obtain ⟨hcz32_0, hcz32_1, hcz32_2, hfz32_0, hfz32_1, hfz32_2⟩ := bK3 (w := w29) BK990; obtain ⟨hnb33, hnc33⟩ := nB NB991_992; obtain ⟨hcz34_0, hcz34_1, hcz34_2, hfz34_0, hfz34_1, hfz34_2⟩ := bK3 (w := w29) BK991; obtain ⟨hcz35_0, hcz35_1, hcz35_2, hfz35_0, hfz35_1, hfz35_2⟩ := bK3 (w := w29) BK992) | ((with_reducible refine gate_dst (N := 6) rfl ?_); (try (refine gate_guard (by rfl) ?_; dsimp only)); refine box_event ?hg (N := 6) ?hd (cs := #[.int .i64 0, .int .i64 0]) (t := 31) ?hr ?_; (case hd => rfl); (case hg => rfl); (case hr => first | (go_simp; done) | (go_simp; rfl)); intro gb993 hg w36 hbox hb; have BK993 := Aside0.mk (hbox); have GW993 := bG HB hg; have GE993 := bG HB hg; replace HB := bS HB hb; have NB990_993 := Aside0.mk ((by rw [hg]; exact Nat.ne_of_lt (blk_lt (g := gb990) (o := .cells #[.int .i64 t981, .int .i64 t982, .bool true] 25 (0, 0)) (bU BK990)) : gb990 ≠ gb993)); have NB993_990 := Aside0.mk ((by rw [hg]; exact Nat.ne_of_gt (blk_lt (g := gb990) (o := .cells #[.int .i64 t981, .int .i64 t982, .bool true] 25 (0, 0)) (bU BK990)) : gb993 ≠ gb990)); replace BK990 := bV 25 #[.int .i64 t981, .int .i64 t982, .bool true] BK990 hb; have NB991_993 := Aside0.mk ((by rw [hg]; exact Nat.ne_of_lt (blk_lt (g := gb991) (o := .cells #[.int .i64 t984, .int .i64 t985, .bool t986] 25 (0, 0)) (bU BK991)) : gb991 ≠ gb993)); have NB993_991 := Aside0.mk ((by rw [hg]; exact Nat.ne_of_gt (blk_lt (g := gb991) (o := .cells #[.int .i64 t984, .int .i64 t985, .bool t986] 25 (0, 0)) (bU BK991)) : gb993 ≠ gb991)); replace BK991 := bV 25 #[.int .i64 t984, .int .i64 t985, .bool t986] BK991 hb; have NB992_993 := Aside0.mk ((by rw [hg]; exact Nat.ne_of_lt (blk_lt (g := gb992) (o := .cells #[.int .i64 t987, .int .i64 t988, .bool t989] 25 (0, 0)) (bU BK992)) : gb992 ≠ gb993)); have NB993_992 := Aside0.mk ((by rw [hg]; exact Nat.ne_of_gt (blk_lt (g := gb992) (o := .cells #[.int .i64 t987, .int .i64 t988, .bool t989] 25 (0, 0)) (bU BK992)) : gb993 ≠ gb992)); replace BK992 := bV 25 #[.int .i64 t987, .int .i64 t988, .bool t989] BK992 hb; clear hb hbox hg; obtain ⟨hnb37, hnc37⟩ := nB NB993_990; obtain ⟨hnb38, hnc38⟩ := nB NB993_991; obtain ⟨hnb39, hnc39⟩ := nB NB993_992; obtain ⟨hcz40_0, hcz40_1, hfz40_0, hfz40_1⟩ := bK2 (w := w36) BK993; obtain ⟨hcz41_0, hcz41_1, hcz41_2, hfz41_0, hfz41_1, hfz41_2⟩ := bK3 (w := w36) BK990; obtain ⟨hcz42_0, hcz42_1, hcz42_2, hfz42_0, hfz42_1, hfz42_2⟩ := bK3 (w := w36) BK991) | ((with_reducible refine gate_callee (f := 17) rfl ?_); refine gL (some 26) Try.func17 #[.agg #[.int .i64 t981, .int .i64 t982, .bool true], .agg #[.int .i64 t984, .int .i64 t985, .bool t986]] ?_; (with_reducible refine (impl_Pairing.calls k t981 t982 true t984 t985 t986 t994 t995 _ A5.out).mono ?_); rintro e w43 ⟨rfl, hb⟩; refine ⟨_, rfl, ?_⟩; replace BK990 := bB BK990 hb; replace BK991 := bB BK991 hb; replace BK992 := bB BK992 hb; replace BK993 := bV 31 #[.int .i64 1, .int .i64 0] BK993 hb; replace HB := bS HB hb; (try clear hb)) | ((with_reducible refine gate_dst (N := 7) rfl ?_); (try (refine gate_guard (by rfl) ?_; dsimp only)); refine box_event ?hg (N := 7) ?hd (cs := #[.int .i64 0, .int .i64 0]) (t := 31) ?hr ?_; (case hd => rfl); (case hg => rfl); (case hr => first | (go_simp; done) | (go_simp; rfl)); intro gb996 hg w44 hbox hb; have BK996 := Aside0.mk (hbox); have GW996 := bG HB hg; have GE996 := bG HB hg; replace HB := bS HB hb; have NB990_996 := bL BK990 hg; have NB996_990 := bR BK990 hg; replace BK990 := bB BK990 hb; have NB991_996 := bL BK991 hg; have NB996_991 := bR BK991 hg; replace BK991 := bB BK991 hb; have NB992_996 := bL BK992 hg; have NB996_992 := bR BK992 hg; replace BK992 := bB BK992 hb; have NB993_996 := bL BK993 hg; have NB996_993 := bR BK993 hg; replace BK993 := bB BK993 hb; clear hb hbox hg; obtain ⟨hnb45, hnc45⟩ := nB NB996_990; obtain ⟨hnb46, hnc46⟩ := nB NB996_991; obtain ⟨hnb47, hnc47⟩ := nB NB996_992; obtain ⟨hnb48, hnc48⟩ := nB NB996_993; obtain ⟨hcz49_0, hcz49_1, hfz49_0, hfz49_1⟩ := bK2 (w := w44) BK996) | ((with_reducible refine gate_callee (f := 56) rfl ?_); refine gL (some 29) Try.func56 #[.slice A0 l0.length c0] ?_; (with_reducible refine (spec_DrawPairsRight.calls k _ _ l0 t997 t998 _ ?side1 ?side2 A6.out).mono ?_); (case side1 => exact Kd.C_below HR0.out (bZ HB)); (case side2 => exact HC0.out); rintro e w50 ⟨v999, v1001, rfl, ho0, ho1, hb⟩; refine ⟨_, rfl, ?_⟩; have HO1000 := Aside0.mk (Kd.R_lower (Kd.R_newB (Kd.R_newB (Kd.R_newB ho0 (bP BK990)) (bP BK991)) (bP BK992)) (below_size (bZ HB))); have HO1002 := Aside0.mk (Kd.R_lower (Kd.R_newB (Kd.R_newB (Kd.R_newB ho1 (bP BK990)) (bP BK991)) (bP BK992)) (below_size (bZ HB))); replace BK990 := bB BK990 hb; replace BK991 := bB BK991 hb; replace BK992 := bB BK992 hb; replace BK993 := bB BK993 hb; replace BK996 := bV 31 #[.int .i64 t994, .int .i64 t995] BK996 hb; replace HB := bS HB hb; (try clear hb); (try clear ho0); (try clear ho1)) | ((with_reducible refine gate_callee (f := 57) rfl ?_); refine gL (some 34) Try.func57 #[.slice A0 l0.length c0] ?_; (with_reducible refine (spec_DrawPairLine.calls k _ _ l0 t1003 t1004 t1005 t1006 t1007 t1008 t1009 t1010 t1011 _ ?side1 ?side2 A7.out).mono ?_); (case side1 => exact cP (Kd.C_below HR0.out HB.out)); (case side2 => exact HC0.out); rintro e w51 ⟨rfl, hb⟩; refine ⟨_, rfl, ?_⟩; replace HO1000 := Aside0.mk (Kd.R_below (rP HO1000) hb); replace HO1002 := Aside0.mk (Kd.R_below (rP HO1002) hb); replace BK990 := bB BK990 hb; replace BK991 := bB BK991 hb; replace BK992 := bB BK992 hb; replace BK993 := bB BK993 hb; replace BK996 := bB BK996 hb; replace HB := bS HB hb; (try clear hb)) | ((with_reducible refine gate_dst (N := 10) rfl ?_); (try (refine gate_guard (by rfl) ?_; dsimp only)); refine box_event ?hg (N := 10) ?hd (cs := #[.int .i64 0, .int .i64 0, .bool false]) (t := 25) ?hr ?_; (case hd => rfl); (case hg => rfl); (case hr => first | (go_simp; done) | (go_simp; rfl)); intro gb1012 hg w52 hbox hb; replace HO1000 := Aside0.mk (Kd.R_below (Kd.R_elderB (rP HO1000) gb1012 (Nat.le_of_eq hg.symm)) hb); replace HO1002 := Aside0.mk (Kd.R_below (Kd.R_elderB (rP HO1002) gb1012 (Nat.le_of_eq hg.symm)) hb); have BK1012 := Aside0.mk (hbox); have GW1012 := bG HB hg; have GE1012 := bG HB hg; replace HB := bS HB hb; have NB990_1012 := bL BK990 hg; have NB1012_990 := bR BK990 hg; replace BK990 := bB BK990 hb; have NB991_1012 := bL BK991 hg; have NB1012_991 := bR BK991 hg; replace BK991 := bB BK991 hb; have NB992_1012 := bL BK992 hg; have NB1012_992 := bR BK992 hg; replace BK992 := bB BK992 hb; have NB993_1012 := bL BK993 hg; have NB1012_993 := bR BK993 hg; replace BK993 := bB BK993 hb; have NB996_1012 := bL BK996 hg; have NB1012_996 := bR BK996 hg; replace BK996 := bB BK996 hb; clear hb hbox hg) | ((with_reducible refine gate_dst (N := 11) rfl ?_); (try (refine gate_guard (by rfl) ?_; dsimp only)); refine box_event ?hg (N := 11) ?hd (cs := #[.int .i64 0, .int .i64 0, .bool false]) (t := 25) ?hr ?_; (case hd => rfl); (case hg => rfl); (case hr => first | (go_simp; done) | (go_simp; rfl)); intro gb1013 hg w53 hbox hb; replace HO1000 := Aside0.mk (Kd.R_below (Kd.R_elderB (rP HO1000) gb1013 (Nat.le_of_eq hg.symm)) hb); replace HO1002 := Aside0.mk (Kd.R_below (Kd.R_elderB (rP HO1002) gb1013 (Nat.le_of_eq hg.symm)) hb); have BK1013 := Aside0.mk (hbox); have GW1013 := bG HB hg; have GE1013 := bG HB hg; replace HB := bS HB hb; have NB990_1013 := bL BK990 hg; have NB1013_990 := bR BK990 hg; replace BK990 := bB BK990 hb; have NB991_1013 := bL BK991 hg; have NB1013_991 := bR BK991 hg; replace BK991 := bB BK991 hb; have NB992_1013 := bL BK992 hg; have NB1013_992 := bR BK992 hg; replace BK992 := bB BK992 hb; have NB993_1013 := bL BK993 hg; have NB1013_993 := bR BK993 hg; replace BK993 := bB BK993 hb; have NB996_1013 := bL BK996 hg; have NB1013_996 := bR BK996 hg; replace BK996 := bB BK996 hb; have NB1012_1013 := bL BK1012 hg; have NB1013_1012 := bR BK1012 hg; replace BK1012 := bB BK1012 hb; clear hb hbox hg) | ((with_reducible refine gate_dst (N := 12) rfl ?_); (try (refine gate_guard (by rfl) ?_; dsimp only)); refine box_event ?hg (N := 12) ?hd (cs := #[.int .i64 0, .int .i64 0, .bool false]) (t := 25) ?hr ?_; (case hd => rfl); (case hg => rfl); (case hr => first | (go_simp; done) | (go_simp; rfl)); intro gb1014 hg w54 hbox hb; replace HO1000 := Aside0.mk (Kd.R_below (Kd.R_elderB (rP HO1000) gb1014 (Nat.le_of_eq hg.symm)) hb); replace HO1002 := Aside0.mk (Kd.R_below (Kd.R_elderB (rP HO1002) gb1014 (Nat.le_of_eq hg.symm)) hb); have BK1014 := Aside0.mk (hbox); have GW1014 := bG HB hg; have GE1014 := bG HB hg; replace HB := bS HB hb; have NB990_1014 := bL BK990 hg; have NB1014_990 := bR BK990 hg; replace BK990 := bB BK990 hb; have NB991_1014 := bL BK991 hg; have NB1014_991 := bR BK991 hg; replace BK991 := bB BK991 hb; have NB992_1014 := bL BK992 hg; have NB1014_992 := bR BK992 hg; replace BK992 := bB BK992 hb; have NB993_1014 := bL BK993 hg; have NB1014_993 := bR BK993 hg; replace BK993 := bB BK993 hb; have NB996_1014 := bL BK996 hg; have NB1014_996 := bR BK996 hg; replace BK996 := bB BK996 hb; have NB1012_1014 := bL BK1012 hg; have NB1014_1012 := bR BK1012 hg; replace BK1012 := bB BK1012 hb; have NB1013_1014 := bL BK1013 hg; have NB1014_1013 := bR BK1013 hg; replace BK1013 := bB BK1013 hb; clear hb hbox hg; obtain ⟨hnb55, hnc55⟩ := nB NB1012_990; obtain ⟨hnb56, hnc56⟩ := nB NB1012_991; obtain ⟨hnb57, hnc57⟩ := nB NB1012_992; obtain ⟨hnb58, hnc58⟩ := nB NB1012_993; obtain ⟨hnb59, hnc59⟩ := nB NB1012_996; obtain ⟨hnb60, hnc60⟩ := nB NB1012_1013; obtain ⟨hnb61, hnc61⟩ := nB NB1012_1014; obtain ⟨hcz62_0, hcz62_1, hcz62_2, hfz62_0, hfz62_1, hfz62_2⟩ := bK3 (w := w54) BK1012; obtain ⟨hnb63, hnc63⟩ := nB NB1013_990; obtain ⟨hnb64, hnc64⟩ := nB NB1013_991; obtain ⟨hnb65, hnc65⟩ := nB NB1013_992; obtain ⟨hnb66, hnc66⟩ := nB NB1013_993; obtain ⟨hnb67, hnc67⟩ := nB NB1013_996; obtain ⟨hnb68, hnc68⟩ := nB NB1013_1014; obtain ⟨hcz69_0, hcz69_1, hcz69_2, hfz69_0, hfz69_1, hfz69_2⟩ := bK3 (w := w54) BK1013; obtain ⟨hnb70, hnc70⟩ := nB NB1014_990; obtain ⟨hnb71, hnc71⟩ := nB NB1014_991; obtain ⟨hnb72, hnc72⟩ := nB NB1014_992; obtain ⟨hnb73, hnc73⟩ := nB NB1014_993; obtain ⟨hnb74, hnc74⟩ := nB NB1014_996; obtain ⟨hcz75_0, hcz75_1, hcz75_2, hfz75_0, hfz75_1, hfz75_2⟩ := bK3 (w := w54) BK1014) | ((with_reducible refine gate_callee (f := 58) rfl ?_); refine gL (some 40) Try.func58 #[.slice A0 l0.length c0] ?_; (with_reducible refine (spec_DrawMiller.calls k _ _ l0 t1015 t1016 t1017 t1018 t1019 t1020 _ ?side1 ?side2 A8.out).mono ?_); (case side1 => exact Kd.C_below HR0.out (bZ HB)); (case side2 => exact HC0.out); rintro e w76 ⟨rfl, hb⟩; refine ⟨_, rfl, ?_⟩; replace HO1000 := Aside0.mk (Kd.R_below (by (with_reducible repeat (first | apply Kd.R_alloc | apply Kd.R_drewN | apply Kd.R_drew)); exact (Kd.R_mono (Kd.R_mono (Kd.R_mono (Kd.R_far (p := ⟨gb1014, 2, none⟩) (Kd.R_far (p := ⟨gb1014, 1, none⟩) (Kd.R_far (p := ⟨gb1014, 0, none⟩) (Kd.R_far (p := ⟨gb1013, 2, none⟩) (Kd.R_far (p := ⟨gb1013, 1, none⟩) (Kd.R_far (p := ⟨gb1013, 0, none⟩) (Kd.R_far (p := ⟨gb1012, 2, none⟩) (Kd.R_far (p := ⟨gb1012, 1, none⟩) (Kd.R_far (p := ⟨gb1012, 0, none⟩) (Kd.R_mono (Kd.R_mono (Kd.R_mono HO1000.out (fun k_ hk => (⟨hk, hk.1.1.2⟩ : _ ∧ k_ ≠ gb1012))) (fun k_ hk => (⟨hk, hk.1.1.2⟩ : _ ∧ k_ ≠ gb1013))) (fun k_ hk => (⟨hk, hk.1.1.2⟩ : _ ∧ k_ ≠ gb1014))) (fun _ hk => hk.1.1.2) (.int .i64 t1003)) (fun _ hk => hk.1.1.2) (.int .i64 t1004)) (fun _ hk => hk.1.1.2) (.bool t1005)) (fun _ hk => hk.1.2) (.int .i64 t1006)) (fun _ hk => hk.1.2) (.int .i64 t1007)) (fun _ hk => hk.1.2) (.bool t1008)) (fun _ hk => hk.2) (.int .i64 t1009)) (fun _ hk => hk.2) (.int .i64 t1010)) (fun _ hk => hk.2) (.bool t1011)) (fun _ h_ => h_.1)) (fun _ h_ => h_.1)) (fun _ h_ => h_.1))) hb); replace HO1002 := Aside0.mk (Kd.R_below (by (with_reducible repeat (first | apply Kd.R_alloc | apply Kd.R_drewN | apply Kd.R_drew)); exact (Kd.R_mono (Kd.R_mono (Kd.R_mono (Kd.R_far (p := ⟨gb1014, 2, none⟩) (Kd.R_far (p := ⟨gb1014, 1, none⟩) (Kd.R_far (p := ⟨gb1014, 0, none⟩) (Kd.R_far (p := ⟨gb1013, 2, none⟩) (Kd.R_far (p := ⟨gb1013, 1, none⟩) (Kd.R_far (p := ⟨gb1013, 0, none⟩) (Kd.R_far (p := ⟨gb1012, 2, none⟩) (Kd.R_far (p := ⟨gb1012, 1, none⟩) (Kd.R_far (p := ⟨gb1012, 0, none⟩) (Kd.R_mono (Kd.R_mono (Kd.R_mono HO1002.out (fun k_ hk => (⟨hk, hk.1.1.2⟩ : _ ∧ k_ ≠ gb1012))) (fun k_ hk => (⟨hk, hk.1.1.2⟩ : _ ∧ k_ ≠ gb1013))) (fun k_ hk => (⟨hk, hk.1.1.2⟩ : _ ∧ k_ ≠ gb1014))) (fun _ hk => hk.1.1.2) (.int .i64 t1003)) (fun _ hk => hk.1.1.2) (.int .i64 t1004)) (fun _ hk => hk.1.1.2) (.bool t1005)) (fun _ hk => hk.1.2) (.int .i64 t1006)) (fun _ hk => hk.1.2) (.int .i64 t1007)) (fun _ hk => hk.1.2) (.bool t1008)) (fun _ hk => hk.2) (.int .i64 t1009)) (fun _ hk => hk.2) (.int .i64 t1010)) (fun _ hk => hk.2) (.bool t1011)) (fun _ h_ => h_.1)) (fun _ h_ => h_.1)) (fun _ h_ => h_.1))) hb); replace BK990 := bB BK990 hb; replace BK991 := bB BK991 hb; replace BK992 := bB BK992 hb; replace BK993 := bB BK993 hb; replace BK996 := bB BK996 hb; replace BK1012 := bV 25 #[.int .i64 t1003, .int .i64 t1004, .bool t1005] BK1012 hb; replace BK1013 := bV 25 #[.int .i64 t1006, .int .i64 t1007, .bool t1008] BK1013 hb; replace BK1014 := bV 25 #[.int .i64 t1009, .int .i64 t1010, .bool t1011] BK1014 hb; replace HB := bS HB hb; (try clear hb)) | ((with_reducible refine gate_dst (N := 13) rfl ?_); (try (refine gate_guard (by rfl) ?_; dsimp only)); refine box_event ?hg (N := 13) ?hd (cs := #[.int .i64 0, .int .i64 0, .bool false]) (t := 25) ?hr ?_; (case hd => rfl); (case hg => rfl); (case hr => first | (go_simp; done) | (go_simp; rfl)); intro gb1021 hg w77 hbox hb; replace HO1000 := Aside0.mk (Kd.R_below (Kd.R_elderB (rP HO1000) gb1021 (Nat.le_of_eq hg.symm)) hb); replace HO1002 := Aside0.mk (Kd.R_below (Kd.R_elderB (rP HO1002) gb1021 (Nat.le_of_eq hg.symm)) hb); have BK1021 := Aside0.mk (hbox); have GW1021 := bG HB hg; have GE1021 := bG HB hg; replace HB := bS HB hb; have NB990_1021 := bL BK990 hg; have NB1021_990 := bR BK990 hg; replace BK990 := bB BK990 hb; have NB991_1021 := bL BK991 hg; have NB1021_991 := bR BK991 hg; replace BK991 := bB BK991 hb; have NB992_1021 := bL BK992 hg; have NB1021_992 := bR BK992 hg; replace BK992 := bB BK992 hb; have NB993_1021 := bL BK993 hg; have NB1021_993 := bR BK993 hg; replace BK993 := bB BK993 hb; have NB996_1021 := bL BK996 hg; have NB1021_996 := bR BK996 hg; replace BK996 := bB BK996 hb; have NB1012_1021 := bL BK1012 hg; have NB1021_1012 := bR BK1012 hg; replace BK1012 := bB BK1012 hb; have NB1013_1021 := bL BK1013 hg; have NB1021_1013 := bR BK1013 hg; replace BK1013 := bB BK1013 hb; have NB1014_1021 := bL BK1014 hg; have NB1021_1014 := bR BK1014 hg; replace BK1014 := bB BK1014 hb; clear hb hbox hg) | ((with_reducible refine gate_dst (N := 14) rfl ?_); (try (refine gate_guard (by rfl) ?_; dsimp only)); refine box_event ?hg (N := 14) ?hd (cs := #[.int .i64 0, .int .i64 0, .bool false]) (t := 25) ?hr ?_; (case hd => rfl); (case hg => rfl); (case hr => first | (go_simp; done) | (go_simp; rfl)); intro gb1022 hg w78 hbox hb; replace HO1000 := Aside0.mk (Kd.R_below (Kd.R_elderB (rP HO1000) gb1022 (Nat.le_of_eq hg.symm)) hb); replace HO1002 := Aside0.mk (Kd.R_below (Kd.R_elderB (rP HO1002) gb1022 (Nat.le_of_eq hg.symm)) hb); have BK1022 := Aside0.mk (hbox); have GW1022 := bG HB hg; have GE1022 := bG HB hg; replace HB := bS HB hb; have NB990_1022 := bL BK990 hg; have NB1022_990 := bR BK990 hg; replace BK990 := bB BK990 hb; have NB991_1022 := bL BK991 hg; have NB1022_991 := bR BK991 hg; replace BK991 := bB BK991 hb; have NB992_1022 := bL BK992 hg; have NB1022_992 := bR BK992 hg; replace BK992 := bB BK992 hb; have NB993_1022 := bL BK993 hg; have NB1022_993 := bR BK993 hg; replace BK993 := bB BK993 hb; have NB996_1022 := bL BK996 hg; have NB1022_996 := bR BK996 hg; replace BK996 := bB BK996 hb; have NB1012_1022 := bL BK1012 hg; have NB1022_1012 := bR BK1012 hg; replace BK1012 := bB BK1012 hb; have NB1013_1022 := bL BK1013 hg; have NB1022_1013 := bR BK1013 hg; replace BK1013 := bB BK1013 hb; have NB1014_1022 := bL BK1014 hg; have NB1022_1014 := bR BK1014 hg; replace BK1014 := bB BK1014 hb; have NB1021_1022 := bL BK1021 hg; have NB1022_1021 := bR BK1021 hg; replace BK1021 := bB BK1021 hb; clear hb hbox hg; obtain ⟨hnb79, hnc79⟩ := nB NB1021_990; obtain ⟨hnb80, hnc80⟩ := nB NB1021_991; obtain ⟨hnb81, hnc81⟩ := nB NB1021_992; obtain ⟨hnb82, hnc82⟩ := nB NB1021_993; obtain ⟨hnb83, hnc83⟩ := nB NB1021_996; obtain ⟨hnb84, hnc84⟩ := nB NB1021_1012; obtain ⟨hnb85, hnc85⟩ := nB NB1021_1013; obtain ⟨hnb86, hnc86⟩ := nB NB1021_1014; obtain ⟨hnb87, hnc87⟩ := nB NB1021_1022; obtain ⟨hcz88_0, hcz88_1, hcz88_2, hfz88_0, hfz88_1, hfz88_2⟩ := bK3 (w := w78) BK1021; obtain ⟨hnb89, hnc89⟩ := nB NB1022_990; obtain ⟨hnb90, hnc90⟩ := nB NB1022_991; obtain ⟨hnb91, hnc91⟩ := nB NB1022_992; obtain ⟨hnb92, hnc92⟩ := nB NB1022_993; obtain ⟨hnb93, hnc93⟩ := nB NB1022_996; obtain ⟨hnb94, hnc94⟩ := nB NB1022_1012; obtain ⟨hnb95, hnc95⟩ := nB NB1022_1013; obtain ⟨hnb96, hnc96⟩ := nB NB1022_1014; obtain ⟨hcz97_0, hcz97_1, hcz97_2, hfz97_0, hfz97_1, hfz97_2⟩ := bK3 (w := w78) BK1022; obtain ⟨Ao98, co98, eo98⟩ := Kd.R_slice HO1000.out; subst eo98; obtain ⟨Ao99, co99, eo99⟩ := Kd.R_slice HO1002.out; subst eo99))
        obtain ⟨w100, hW_⟩ : ∃ W_ : World, W_ = ((((((w78.setCell ⟨gb1021, 0, none⟩ (.int .i64 t1015)).setCell ⟨gb1021, 1, none⟩ (.int .i64 t1016)).setCell ⟨gb1021, 2, none⟩ (.bool t1017)).setCell ⟨gb1022, 0, none⟩ (.int .i64 t1018)).setCell ⟨gb1022, 1, none⟩ (.int .i64 t1019)).setCell ⟨gb1022, 2, none⟩ (.bool t1020)) := ⟨_, rfl⟩
        have n0_ : Aside0 (Kd.R k25 25 ((((((w78.setCell ⟨gb1021, 0, none⟩ (.int .i64 t1015)).setCell ⟨gb1021, 1, none⟩ (.int .i64 t1016)).setCell ⟨gb1021, 2, none⟩ (.bool t1017)).setCell ⟨gb1022, 0, none⟩ (.int .i64 t1018)).setCell ⟨gb1022, 1, none⟩ (.int .i64 t1019)).setCell ⟨gb1022, 2, none⟩ (.bool t1020)) w.heap.size (fun k_ => some k_ ≠ (.slice Ao99 t998.length co99 : Value).ownBlock ∧ k_ ≠ gb990 ∧ k_ ≠ gb991 ∧ k_ ≠ gb992 ∧ k_ ≠ gb1012 ∧ k_ ≠ gb1013 ∧ k_ ≠ gb1014 ∧ k_ ≠ gb1021 ∧ k_ ≠ gb1022) (.slice Ao98 t997.length co98) t997) := ⟨by (with_reducible repeat (first | apply Kd.R_alloc | apply Kd.R_drewN | apply Kd.R_drew)); exact Kd.R_mono (Kd.R_far (p := ⟨gb1022, 2, none⟩) (Kd.R_far (p := ⟨gb1022, 1, none⟩) (Kd.R_far (p := ⟨gb1022, 0, none⟩) (Kd.R_far (p := ⟨gb1021, 2, none⟩) (Kd.R_far (p := ⟨gb1021, 1, none⟩) (Kd.R_far (p := ⟨gb1021, 0, none⟩) (Kd.R_mono (Kd.R_mono HO1000.out (fun k_ hk => (⟨hk, hk.1.2⟩ : _ ∧ k_ ≠ gb1021))) (fun k_ hk => (⟨hk, hk.1.2⟩ : _ ∧ k_ ≠ gb1022))) (fun _ hk => hk.1.2) (.int .i64 t1015)) (fun _ hk => hk.1.2) (.int .i64 t1016)) (fun _ hk => hk.1.2) (.bool t1017)) (fun _ hk => hk.2) (.int .i64 t1018)) (fun _ hk => hk.2) (.int .i64 t1019)) (fun _ hk => hk.2) (.bool t1020)) (fun _ hk => ⟨hk.1.1.1.1.1.1.1.1.1.1, ⟨hk.1.1.1.1.1.1.1.1.1.2, ⟨hk.1.1.1.1.1.1.1.1.2, ⟨hk.1.1.1.1.1.1.1.2, ⟨hk.1.1.1.1.1.1.2, ⟨hk.1.1.1.1.1.2, ⟨hk.1.1.1.1.2, ⟨hk.1.1.1.2, hk.1.1.2⟩⟩⟩⟩⟩⟩⟩⟩)⟩
        rw [← hW_] at n0_
        have n1_ : Aside0 (Kd.R k25 25 ((((((w78.setCell ⟨gb1021, 0, none⟩ (.int .i64 t1015)).setCell ⟨gb1021, 1, none⟩ (.int .i64 t1016)).setCell ⟨gb1021, 2, none⟩ (.bool t1017)).setCell ⟨gb1022, 0, none⟩ (.int .i64 t1018)).setCell ⟨gb1022, 1, none⟩ (.int .i64 t1019)).setCell ⟨gb1022, 2, none⟩ (.bool t1020)) w.heap.size (fun k_ => some k_ ≠ (.slice Ao98 t997.length co98 : Value).ownBlock ∧ k_ ≠ gb990 ∧ k_ ≠ gb991 ∧ k_ ≠ gb992 ∧ k_ ≠ gb1012 ∧ k_ ≠ gb1013 ∧ k_ ≠ gb1014 ∧ k_ ≠ gb1021 ∧ k_ ≠ gb1022) (.slice Ao99 t998.length co99) t998) := ⟨by (with_reducible repeat (first | apply Kd.R_alloc | apply Kd.R_drewN | apply Kd.R_drew)); exact Kd.R_mono (Kd.R_far (p := ⟨gb1022, 2, none⟩) (Kd.R_far (p := ⟨gb1022, 1, none⟩) (Kd.R_far (p := ⟨gb1022, 0, none⟩) (Kd.R_far (p := ⟨gb1021, 2, none⟩) (Kd.R_far (p := ⟨gb1021, 1, none⟩) (Kd.R_far (p := ⟨gb1021, 0, none⟩) (Kd.R_mono (Kd.R_mono HO1002.out (fun k_ hk => (⟨hk, hk.1.2⟩ : _ ∧ k_ ≠ gb1021))) (fun k_ hk => (⟨hk, hk.1.2⟩ : _ ∧ k_ ≠ gb1022))) (fun _ hk => hk.1.2) (.int .i64 t1015)) (fun _ hk => hk.1.2) (.int .i64 t1016)) (fun _ hk => hk.1.2) (.bool t1017)) (fun _ hk => hk.2) (.int .i64 t1018)) (fun _ hk => hk.2) (.int .i64 t1019)) (fun _ hk => hk.2) (.bool t1020)) (fun _ hk => ⟨hk.1.1.1.1.1.1.1.1.1.1, ⟨hk.1.1.1.1.1.1.1.1.1.2, ⟨hk.1.1.1.1.1.1.1.1.2, ⟨hk.1.1.1.1.1.1.1.2, ⟨hk.1.1.1.1.1.1.2, ⟨hk.1.1.1.1.1.2, ⟨hk.1.1.1.1.2, ⟨hk.1.1.1.2, hk.1.1.2⟩⟩⟩⟩⟩⟩⟩⟩)⟩
        rw [← hW_] at n1_
        replace BK990 := bW hW_ BK990
        replace BK991 := bW hW_ BK991
        replace BK992 := bW hW_ BK992
        replace BK993 := bW hW_ BK993
        replace BK996 := bW hW_ BK996
        replace BK1012 := bW hW_ BK1012
        replace BK1013 := bW hW_ BK1013
        replace BK1014 := bW hW_ BK1014
        replace BK1021 := bX hW_ 25 #[.int .i64 t1015, .int .i64 t1016, .bool t1017] BK1021
        replace BK1022 := bX hW_ 25 #[.int .i64 t1018, .int .i64 t1019, .bool t1020] BK1022
        (try clear HO1000)
        (try clear HO1002)
        have HO1000 := n0_
        clear n0_
        have HO1002 := n1_
        clear n1_
        replace HB := zW hW_ HB
        rw [← hW_]
        clear hW_
        replace HO1000 := Aside0.mk (Kd.R_drew HO1000.out)
        replace HO1002 := Aside0.mk (Kd.R_drew HO1002.out)
        replace BK990 := Aside0.mk (blk_drew BK990.out)
        replace BK991 := Aside0.mk (blk_drew BK991.out)
        replace BK992 := Aside0.mk (blk_drew BK992.out)
        replace BK993 := Aside0.mk (blk_drew BK993.out)
        replace BK996 := Aside0.mk (blk_drew BK996.out)
        replace BK1012 := Aside0.mk (blk_drew BK1012.out)
        replace BK1013 := Aside0.mk (blk_drew BK1013.out)
        replace BK1014 := Aside0.mk (blk_drew BK1014.out)
        replace BK1021 := Aside0.mk (blk_drew BK1021.out)
        replace BK1022 := Aside0.mk (blk_drew BK1022.out)
        replace HB := Aside0.mk (below_drew1 HB.out)
        refine start_ (n := 57) (S := fun w' => SP2 w' gb996 (.int .i64 t994) (.int .i64 t995) (SP2 w' gb993 (.int .i64 1) (.int .i64 0) (SP3 w' gb990 (.int .i64 t981) (.int .i64 t982) (.bool true) (SP3 w' gb991 (.int .i64 t984) (.int .i64 t985) (.bool t986) (SP3 w' gb1012 (.int .i64 t1003) (.int .i64 t1004) (.bool t1005) (SP3 w' gb1013 (.int .i64 t1006) (.int .i64 t1007) (.bool t1008) (SP3 w' gb1014 (.int .i64 t1009) (.int .i64 t1010) (.bool t1011) (SP3 w' gb1021 (.int .i64 t1015) (.int .i64 t1016) (.bool t1017) (SQ3 w' gb1022 (.int .i64 t1018) (.int .i64 t1019) (.bool t1020)))))))))) (ds := []) #[false, false, false, false, false, false, false, false, false, false, false, false, false, false, false, false, false, false, false, false, false, false, false, false, false, false, false, false, false, false, false, false, false, false, false, false, false, false, false, false, false, false, false, false, false, false, false, false, false, false, false, false, false, false, false, false, false] (by kernel_rfl) rfl rfl (bS2 BK996 (bS2 BK993 (bS3 BK990 (bS3 BK991 (bS3 BK1012 (bS3 BK1013 (bS3 BK1014 (bS3 BK1021 (bT3 BK1022))))))))) (fun hHeld => ?_); refine with_tabW laws_FnPairsKnown.tab9 laws_FnPairsKnown.bits9 (fun HT_ HW_ => ?_)
        generalize w100.drew = w101 at HO1000 HO1002 BK990 BK991 BK992 BK993 BK996 BK1012 BK1013 BK1014 BK1021 BK1022 HB hHeld ⊢
        refine pI 3 (some 46) HT_.out ?_
        refine tI25 0 (some 43) HT_.out HW_.out hHeld ?_
        refine tI25 1 (some 44) HT_.out HW_.out hHeld ?_
        refine pI 2 (some 45) HT_.out ?_
        refine tI25 4 (some 47) HT_.out HW_.out hHeld ?_
        refine pI 5 (some 48) HT_.out ?_
        refine pure_ (i := 6) (N := some 49) (v := undef) (a' := ?_) #[true, true, true, true, true, true, true, false, false, false, false, false, false, false, false, false, false, false, false, false, false, false, false, false, false, false, false, false, false, false, false, false, false, false, false, false, false, false, false, false, false, false, false, false, false, false, false, false, false, false, false, false, false, false, false, false, false] rfl rfl (any_of HT_.out (by kernel_rfl)) (fun _ _ _ h => h) (Or.inr ⟨by rfl, rfl⟩) ?_ ?_
        rotate_left
        ·simp only [Act.put, List.setIfInBounds_toArray, List.set_cons_zero, List.set_cons_succ, i64_w, i32_w]
         rfl
        refine pure_ (i := 7) (N := some 50) (v := undef) (a' := ?_) #[true, true, true, true, true, true, true, true, false, false, false, false, false, false, false, false, false, false, false, false, false, false, false, false, false, false, false, false, false, false, false, false, false, false, false, false, false, false, false, false, false, false, false, false, false, false, false, false, false, false, false, false, false, false, false, false, false] rfl rfl (any_of HT_.out (by kernel_rfl)) (fun _ _ _ h => h) (Or.inr ⟨by rfl, rfl⟩) ?_ ?_
        rotate_left
        ·simp only [Act.put, List.setIfInBounds_toArray, List.set_cons_zero, List.set_cons_succ, i64_w, i32_w]
         rfl
        refine pI 8 (some 51) HT_.out ?_
        refine pI 9 (some 52) HT_.out ?_
        refine pI 10 (some 53) HT_.out ?_
        refine tI25 11 (some 54) HT_.out HW_.out hHeld ?_
        refine tI25 12 (some 55) HT_.out HW_.out hHeld ?_
        refine tI25 15 (some 58) HT_.out HW_.out hHeld ?_
        refine tI25 16 (some 59) HT_.out HW_.out hHeld ?_
        refine join_ (σ := Value × Value) 39 #[true, true, true, true, true, true, true, true, true, true, true, true, true, true, true, true, true, true, false, false, false, false, false, false, false, false, false, false, false, false, false, false, false, false, false, false, false, false, false, false, false, false, false, false, false, false, false, false, false, false, false, false, false, false, false, false, false] (fun s_ => [(56, .agg #[.int .i64 t1023, .int .i64 t1024, .bool t1025]), (57, s_.1), (60, s_.2)]) (fun s_ w' => (w'.cell? ⟨gb996, 0, none⟩ = some (.int .i64 t994) ∧ w'.cell? ⟨gb996, 1, none⟩ = some (.int .i64 t995) ∧ w'.cell? ⟨gb993, 0, none⟩ = some (.int .i64 1) ∧ w'.cell? ⟨gb993, 1, none⟩ = some (.int .i64 0) ∧ w'.cell? ⟨gb990, 0, none⟩ = some (.int .i64 t981) ∧ w'.cell? ⟨gb990, 1, none⟩ = some (.int .i64 t982) ∧ w'.cell? ⟨gb990, 2, none⟩ = some (.bool true) ∧ w'.cell? ⟨gb991, 0, none⟩ = some (.int .i64 t984) ∧ w'.cell? ⟨gb991, 1, none⟩ = some (.int .i64 t985) ∧ w'.cell? ⟨gb991, 2, none⟩ = some (.bool t986) ∧ w'.cell? ⟨gb1012, 0, none⟩ = some (.int .i64 t1003) ∧ w'.cell? ⟨gb1012, 1, none⟩ = some (.int .i64 t1004) ∧ w'.cell? ⟨gb1012, 2, none⟩ = some (.bool t1005) ∧ w'.cell? ⟨gb1013, 0, none⟩ = some (.int .i64 t1006) ∧ w'.cell? ⟨gb1013, 1, none⟩ = some (.int .i64 t1007) ∧ w'.cell? ⟨gb1013, 2, none⟩ = some (.bool t1008) ∧ w'.cell? ⟨gb1014, 0, none⟩ = some (.int .i64 t1009) ∧ w'.cell? ⟨gb1014, 1, none⟩ = some (.int .i64 t1010) ∧ w'.cell? ⟨gb1014, 2, none⟩ = some (.bool t1011) ∧ w'.cell? ⟨gb1021, 0, none⟩ = some (.int .i64 t1015) ∧ w'.cell? ⟨gb1021, 1, none⟩ = some (.int .i64 t1016) ∧ w'.cell? ⟨gb1021, 2, none⟩ = some (.bool t1017) ∧ w'.cell? ⟨gb1022, 0, none⟩ = some (.int .i64 t1018) ∧ w'.cell? ⟨gb1022, 1, none⟩ = some (.int .i64 t1019) ∧ w'.cell? ⟨gb1022, 2, none⟩ = some (.bool t1020)) ∧ (Kd.R k25 25 w' w.heap.size (fun k_ => some k_ ≠ (.slice Ao99 t998.length co99 : Value).ownBlock ∧ some k_ ≠ (s_.1 : Value).ownBlock ∧ some k_ ≠ (s_.2 : Value).ownBlock ∧ k_ ≠ gb990 ∧ k_ ≠ gb991 ∧ k_ ≠ gb992 ∧ k_ ≠ gb1012 ∧ k_ ≠ gb1013 ∧ k_ ≠ gb1014 ∧ k_ ≠ gb1021 ∧ k_ ≠ gb1022) (.slice Ao98 t997.length co98) t997) ∧ (Kd.R k25 25 w' w.heap.size (fun k_ => some k_ ≠ (.slice Ao98 t997.length co98 : Value).ownBlock ∧ some k_ ≠ (s_.1 : Value).ownBlock ∧ some k_ ≠ (s_.2 : Value).ownBlock ∧ k_ ≠ gb990 ∧ k_ ≠ gb991 ∧ k_ ≠ gb992 ∧ k_ ≠ gb1012 ∧ k_ ≠ gb1013 ∧ k_ ≠ gb1014 ∧ k_ ≠ gb1021 ∧ k_ ≠ gb1022) (.slice Ao99 t998.length co99) t998) ∧ (Kd.R k25 25 w' w.heap.size (fun k_ => some k_ ≠ (.slice Ao98 t997.length co98 : Value).ownBlock ∧ some k_ ≠ (.slice Ao99 t998.length co99 : Value).ownBlock ∧ some k_ ≠ (s_.2 : Value).ownBlock ∧ k_ ≠ gb990 ∧ k_ ≠ gb991 ∧ k_ ≠ gb992 ∧ k_ ≠ gb1012 ∧ k_ ≠ gb1013 ∧ k_ ≠ gb1014 ∧ k_ ≠ gb1021 ∧ k_ ≠ gb1022) s_.1 y1026) ∧ (Kd.R k25 25 w' w.heap.size (fun k_ => some k_ ≠ (.slice Ao98 t997.length co98 : Value).ownBlock ∧ some k_ ≠ (.slice Ao99 t998.length co99 : Value).ownBlock ∧ some k_ ≠ (s_.1 : Value).ownBlock ∧ k_ ≠ gb990 ∧ k_ ≠ gb991 ∧ k_ ≠ gb992 ∧ k_ ≠ gb1012 ∧ k_ ≠ gb1013 ∧ k_ ≠ gb1014 ∧ k_ ≠ gb1021 ∧ k_ ≠ gb1022) s_.2 y1029) ∧ (w'.heap[gb1012]? = some (.cells #[.int .i64 t1003, .int .i64 t1004, .bool t1005] 25 (0, 0))) ∧ (w'.heap[gb1013]? = some (.cells #[.int .i64 t1006, .int .i64 t1007, .bool t1008] 25 (0, 0))) ∧ (w'.heap[gb1014]? = some (.cells #[.int .i64 t1009, .int .i64 t1010, .bool t1011] 25 (0, 0))) ∧ (w'.heap[gb1021]? = some (.cells #[.int .i64 t1015, .int .i64 t1016, .bool t1017] 25 (0, 0))) ∧ (w'.heap[gb1022]? = some (.cells #[.int .i64 t1018, .int .i64 t1019, .bool t1020] 25 (0, 0))) ∧ (w'.heap[gb990]? = some (.cells #[.int .i64 t981, .int .i64 t982, .bool true] 25 (0, 0))) ∧ (w'.heap[gb991]? = some (.cells #[.int .i64 t984, .int .i64 t985, .bool t986] 25 (0, 0))) ∧ (w'.heap[gb992]? = some (.cells #[.int .i64 t987, .int .i64 t988, .bool t989] 25 (0, 0))) ∧ (w'.heap[gb993]? = some (.cells #[.int .i64 1, .int .i64 0] 31 (0, 0))) ∧ (w'.heap[gb996]? = some (.cells #[.int .i64 t994, .int .i64 t995] 31 (0, 0))) ∧ (Below w.heap.size w w')) ?_ ?_
        rotate_left
        ·intro hCont
         refine two_ (i := 13) (j := 17) (Ni := some 56) (Nj := some 60) #[true, true, true, true, true, true, true, true, true, true, true, true, true, true, false, true, true, false, false, false, false, false, false, false, false, false, false, false, false, false, false, false, false, false, false, false, false, false, false, false, false, false, false, false, false, false, false, false, false, false, false, false, false, false, false, false, false] #[true, true, true, true, true, true, true, true, true, true, true, true, true, false, false, true, true, true, false, false, false, false, false, false, false, false, false, false, false, false, false, false, false, false, false, false, false, false, false, false, false, false, false, false, false, false, false, false, false, false, false, false, false, false, false, false, false] rfl rfl rfl rfl (two_of HT_.out (by kernel_rfl)) (by decide) (by decide) (fun K hK => ?_) (fun K hK => ?_)
         ·skip
          refine gO Try.func30 #[.agg #[.int .i64 t981, .int .i64 t982, .bool true]] ?_
          with_reducible refine (impl_PointNeg.calls t981 t982 true t1023 t1024 t1025 _ A11.out).mono ?_
          rintro e w102 ⟨rfl, hb⟩
          refine ⟨_, rfl, ?_⟩
          replace HO1000 := Aside0.mk (Kd.R_below (rP HO1000) hb)
          replace HO1002 := Aside0.mk (Kd.R_below (rP HO1002) hb)
          replace BK990 := bB BK990 hb
          replace BK991 := bB BK991 hb
          replace BK992 := bB BK992 hb
          replace BK993 := bB BK993 hb
          replace BK996 := bB BK996 hb
          replace BK1012 := bB BK1012 hb
          replace BK1013 := bB BK1013 hb
          replace BK1014 := bB BK1014 hb
          replace BK1021 := bB BK1021 hb
          replace BK1022 := bB BK1022 hb
          replace HB := bS HB hb
          (try clear hb)
          refine hK.out _ _ (bS2 BK996 (bS2 BK993 (bS3 BK990 (bS3 BK991 (bS3 BK1012 (bS3 BK1013 (bS3 BK1014 (bS3 BK1021 (bT3 BK1022))))))))) (fun hHeld => ?_)
          clear hK K
          refine nO (some 56) ?_
          refine two_ (i := 14) (j := 17) (Ni := some 57) (Nj := some 60) #[true, true, true, true, true, true, true, true, true, true, true, true, true, true, true, true, true, false, false, false, false, false, false, false, false, false, false, false, false, false, false, false, false, false, false, false, false, false, false, false, false, false, false, false, false, false, false, false, false, false, false, false, false, false, false, false, false] #[true, true, true, true, true, true, true, true, true, true, true, true, true, true, false, true, true, true, false, false, false, false, false, false, false, false, false, false, false, false, false, false, false, false, false, false, false, false, false, false, false, false, false, false, false, false, false, false, false, false, false, false, false, false, false, false, false] rfl rfl rfl rfl (two_of HT_.out (by kernel_rfl)) (by decide) (by decide) (fun K hK => ?_) (fun K hK => ?_)
          ·skip
           refine Kd.R_lit_step k25 _ 25 ?hg (N := 57) ?hd (xs := ([(⟨t981, t982, true⟩ : S25), (⟨t1023, t1024, t1025⟩ : S25)] : List (S25))) (inner := [.int .i64 t981, .int .i64 t982, .bool true, .int .i64 t1023, .int .i64 t1024, .bool t1025]) (ok := fun _ => True) (okp := fun _ => True) ?hr ?hp (fun _ hk => hk) trivial (Below.refl _ _) (Nat.le_refl _) (by simp) ?_; (case hd => rfl); (case hg => rfl); (case hr => first | (go_simp; done) | (go_simp; rfl)); (case hp => exact (Reps.c3 (show Kd.M k25 _ _ _ (⟨t981, t982, true⟩ : S25) [.int .i64 t981, .int .i64 t982, .bool true] from (k25_mkM _ _ _ (⟨t981, t982, true⟩ : S25) )) (Reps.c3 (show Kd.M k25 _ _ _ (⟨t1023, t1024, t1025⟩ : S25) [.int .i64 t1023, .int .i64 t1024, .bool t1025] from (k25_mkM _ _ _ (⟨t1023, t1024, t1025⟩ : S25) )) (Reps.none _ _))))
           intro v1027 w103 ho104 hb hg_ hnew_
           clear hg_ hnew_
           (first | rw [← Ny1026.out] at ho104 | (simp only [Int.reduceToNat] at ho104; rw [← Ny1026.out] at ho104))
           have HO1028 := Aside0.mk (Kd.R_lower (Kd.R_newB (Kd.R_newB (Kd.R_newB (Kd.R_newB (Kd.R_newB (Kd.R_newB (Kd.R_newB (Kd.R_newB (Kd.R_new' (Kd.R_new' ho104 (Kd.R_lt (rP HO1000))) (Kd.R_lt (rP HO1002))) (bP BK990)) (bP BK991)) (bP BK992)) (bP BK1012)) (bP BK1013)) (bP BK1014)) (bP BK1021)) (bP BK1022)) (below_size (bZ HB)))
           replace HO1000 := Aside0.mk (Kd.R_elder' (rP HO1000) (Kd.R_base ho104) hb)
           replace HO1002 := Aside0.mk (Kd.R_elder' (rP HO1002) (Kd.R_base ho104) hb)
           replace BK990 := bB BK990 hb
           replace BK991 := bB BK991 hb
           replace BK992 := bB BK992 hb
           replace BK993 := bB BK993 hb
           replace BK996 := bB BK996 hb
           replace BK1012 := bB BK1012 hb
           replace BK1013 := bB BK1013 hb
           replace BK1014 := bB BK1014 hb
           replace BK1021 := bB BK1021 hb
           replace BK1022 := bB BK1022 hb
           replace HB := bS HB hb
           clear hb ho104
           refine hK.out _ _ (bS2 BK996 (bS2 BK993 (bS3 BK990 (bS3 BK991 (bS3 BK1012 (bS3 BK1013 (bS3 BK1014 (bS3 BK1021 (bT3 BK1022))))))))) (fun hHeld => ?_)
           clear hK K
           refine nO (some 57) ?_
           refine oI 17 (some 60) HT_.out (fun K hK => ?_)
           refine Kd.R_lit_step k25 _ 25 ?hg (N := 60) ?hd (xs := ([(⟨t984, t985, t986⟩ : S25), (⟨t984, t985, t986⟩ : S25)] : List (S25))) (inner := [.int .i64 t984, .int .i64 t985, .bool t986, .int .i64 t984, .int .i64 t985, .bool t986]) (ok := fun _ => True) (okp := fun _ => True) ?hr ?hp (fun _ hk => hk) trivial (Below.refl _ _) (Nat.le_refl _) (by simp) ?_; (case hd => rfl); (case hg => rfl); (case hr => first | (go_simp; done) | (go_simp; rfl)); (case hp => exact (Reps.c3 (show Kd.M k25 _ _ _ (⟨t984, t985, t986⟩ : S25) [.int .i64 t984, .int .i64 t985, .bool t986] from (k25_mkM _ _ _ (⟨t984, t985, t986⟩ : S25) )) (Reps.c3 (show Kd.M k25 _ _ _ (⟨t984, t985, t986⟩ : S25) [.int .i64 t984, .int .i64 t985, .bool t986] from (k25_mkM _ _ _ (⟨t984, t985, t986⟩ : S25) )) (Reps.none _ _))))
           intro v1030 w105 ho106 hb hg_ hnew_
           clear hg_ hnew_
           (first | rw [← Ny1029.out] at ho106 | (simp only [Int.reduceToNat] at ho106; rw [← Ny1029.out] at ho106))
           have HO1031 := Aside0.mk (Kd.R_lower (Kd.R_newB (Kd.R_newB (Kd.R_newB (Kd.R_newB (Kd.R_newB (Kd.R_newB (Kd.R_newB (Kd.R_newB (Kd.R_new' (Kd.R_new' (Kd.R_new' ho106 (Kd.R_lt (rP HO1000))) (Kd.R_lt (rP HO1002))) (Kd.R_lt (rP HO1028))) (bP BK990)) (bP BK991)) (bP BK992)) (bP BK1012)) (bP BK1013)) (bP BK1014)) (bP BK1021)) (bP BK1022)) (below_size (bZ HB)))
           replace HO1000 := Aside0.mk (Kd.R_elder' (rP HO1000) (Kd.R_base ho106) hb)
           replace HO1002 := Aside0.mk (Kd.R_elder' (rP HO1002) (Kd.R_base ho106) hb)
           replace HO1028 := Aside0.mk (Kd.R_elder' (rP HO1028) (Kd.R_base ho106) hb)
           replace BK990 := bB BK990 hb
           replace BK991 := bB BK991 hb
           replace BK992 := bB BK992 hb
           replace BK993 := bB BK993 hb
           replace BK996 := bB BK996 hb
           replace BK1012 := bB BK1012 hb
           replace BK1013 := bB BK1013 hb
           replace BK1014 := bB BK1014 hb
           replace BK1021 := bB BK1021 hb
           replace BK1022 := bB BK1022 hb
           replace HB := bS HB hb
           clear hb ho106
           refine hK.out _ _ (bS2 BK996 (bS2 BK993 (bS3 BK990 (bS3 BK991 (bS3 BK1012 (bS3 BK1013 (bS3 BK1014 (bS3 BK1021 (bT3 BK1022))))))))) (fun hHeld => ?_)
           clear hK K
           refine nO (some 60) ?_
           exact norm_ (by simp only [putAll, Act.put, List.setIfInBounds_toArray, List.set_cons_zero, List.set_cons_succ]) (hCont (v1027, v1030) _ ⟨hHeld, (by (with_reducible repeat (first | apply Kd.R_alloc | apply Kd.R_drewN | apply Kd.R_drew)); exact Kd.R_mono HO1000.out (fun _ hk => ⟨hk.1.1.1, ⟨hk.1.2, ⟨hk.2, ⟨hk.1.1.2.1, ⟨hk.1.1.2.2.1, ⟨hk.1.1.2.2.2.1, ⟨hk.1.1.2.2.2.2.1, ⟨hk.1.1.2.2.2.2.2.1, ⟨hk.1.1.2.2.2.2.2.2.1, ⟨hk.1.1.2.2.2.2.2.2.2.1, hk.1.1.2.2.2.2.2.2.2.2⟩⟩⟩⟩⟩⟩⟩⟩⟩⟩)), (by (with_reducible repeat (first | apply Kd.R_alloc | apply Kd.R_drewN | apply Kd.R_drew)); exact Kd.R_mono HO1002.out (fun _ hk => ⟨hk.1.1.1, ⟨hk.1.2, ⟨hk.2, ⟨hk.1.1.2.1, ⟨hk.1.1.2.2.1, ⟨hk.1.1.2.2.2.1, ⟨hk.1.1.2.2.2.2.1, ⟨hk.1.1.2.2.2.2.2.1, ⟨hk.1.1.2.2.2.2.2.2.1, ⟨hk.1.1.2.2.2.2.2.2.2.1, hk.1.1.2.2.2.2.2.2.2.2⟩⟩⟩⟩⟩⟩⟩⟩⟩⟩)), (by (with_reducible repeat (first | apply Kd.R_alloc | apply Kd.R_drewN | apply Kd.R_drew)); exact Kd.R_mono HO1028.out (fun _ hk => ⟨hk.1.1.1.1.1.1.1.1.1.1.2, ⟨hk.1.1.1.1.1.1.1.1.1.2, ⟨hk.2, ⟨hk.1.1.1.1.1.1.1.1.2, ⟨hk.1.1.1.1.1.1.1.2, ⟨hk.1.1.1.1.1.1.2, ⟨hk.1.1.1.1.1.2, ⟨hk.1.1.1.1.2, ⟨hk.1.1.1.2, ⟨hk.1.1.2, hk.1.2⟩⟩⟩⟩⟩⟩⟩⟩⟩⟩)), (by (with_reducible repeat (first | apply Kd.R_alloc | apply Kd.R_drewN | apply Kd.R_drew)); exact Kd.R_mono HO1031.out (fun _ hk => ⟨hk.1.1.1.1.1.1.1.1.1.1.2, ⟨hk.1.1.1.1.1.1.1.1.1.2, ⟨hk.1.1.1.1.1.1.1.1.2, ⟨hk.1.1.1.1.1.1.1.2, ⟨hk.1.1.1.1.1.1.2, ⟨hk.1.1.1.1.1.2, ⟨hk.1.1.1.1.2, ⟨hk.1.1.1.2, ⟨hk.1.1.2, ⟨hk.1.2, hk.2⟩⟩⟩⟩⟩⟩⟩⟩⟩⟩)), (bP BK1012), (bP BK1013), (bP BK1014), (bP BK1021), (bP BK1022), (bP BK990), (bP BK991), (bP BK992), (bP BK993), (bP BK996), (bZ HB)⟩)
          ·skip
           refine Kd.R_lit_step k25 _ 25 ?hg (N := 60) ?hd (xs := ([(⟨t984, t985, t986⟩ : S25), (⟨t984, t985, t986⟩ : S25)] : List (S25))) (inner := [.int .i64 t984, .int .i64 t985, .bool t986, .int .i64 t984, .int .i64 t985, .bool t986]) (ok := fun _ => True) (okp := fun _ => True) ?hr ?hp (fun _ hk => hk) trivial (Below.refl _ _) (Nat.le_refl _) (by simp) ?_; (case hd => rfl); (case hg => rfl); (case hr => first | (go_simp; done) | (go_simp; rfl)); (case hp => exact (Reps.c3 (show Kd.M k25 _ _ _ (⟨t984, t985, t986⟩ : S25) [.int .i64 t984, .int .i64 t985, .bool t986] from (k25_mkM _ _ _ (⟨t984, t985, t986⟩ : S25) )) (Reps.c3 (show Kd.M k25 _ _ _ (⟨t984, t985, t986⟩ : S25) [.int .i64 t984, .int .i64 t985, .bool t986] from (k25_mkM _ _ _ (⟨t984, t985, t986⟩ : S25) )) (Reps.none _ _))))
           intro v1030 w103 ho104 hb hg_ hnew_
           clear hg_ hnew_
           (first | rw [← Ny1029.out] at ho104 | (simp only [Int.reduceToNat] at ho104; rw [← Ny1029.out] at ho104))
           have HO1031 := Aside0.mk (Kd.R_lower (Kd.R_newB (Kd.R_newB (Kd.R_newB (Kd.R_newB (Kd.R_newB (Kd.R_newB (Kd.R_newB (Kd.R_newB (Kd.R_new' (Kd.R_new' ho104 (Kd.R_lt (rP HO1000))) (Kd.R_lt (rP HO1002))) (bP BK990)) (bP BK991)) (bP BK992)) (bP BK1012)) (bP BK1013)) (bP BK1014)) (bP BK1021)) (bP BK1022)) (below_size (bZ HB)))
           replace HO1000 := Aside0.mk (Kd.R_elder' (rP HO1000) (Kd.R_base ho104) hb)
           replace HO1002 := Aside0.mk (Kd.R_elder' (rP HO1002) (Kd.R_base ho104) hb)
           replace BK990 := bB BK990 hb
           replace BK991 := bB BK991 hb
           replace BK992 := bB BK992 hb
           replace BK993 := bB BK993 hb
           replace BK996 := bB BK996 hb
           replace BK1012 := bB BK1012 hb
           replace BK1013 := bB BK1013 hb
           replace BK1014 := bB BK1014 hb
           replace BK1021 := bB BK1021 hb
           replace BK1022 := bB BK1022 hb
           replace HB := bS HB hb
           clear hb ho104
           refine hK.out _ _ (bS2 BK996 (bS2 BK993 (bS3 BK990 (bS3 BK991 (bS3 BK1012 (bS3 BK1013 (bS3 BK1014 (bS3 BK1021 (bT3 BK1022))))))))) (fun hHeld => ?_)
           clear hK K
           refine nO (some 60) ?_
           refine oI 14 (some 57) HT_.out (fun K hK => ?_)
           refine Kd.R_lit_step k25 _ 25 ?hg (N := 57) ?hd (xs := ([(⟨t981, t982, true⟩ : S25), (⟨t1023, t1024, t1025⟩ : S25)] : List (S25))) (inner := [.int .i64 t981, .int .i64 t982, .bool true, .int .i64 t1023, .int .i64 t1024, .bool t1025]) (ok := fun _ => True) (okp := fun _ => True) ?hr ?hp (fun _ hk => hk) trivial (Below.refl _ _) (Nat.le_refl _) (by simp) ?_; (case hd => rfl); (case hg => rfl); (case hr => first | (go_simp; done) | (go_simp; rfl)); (case hp => exact (Reps.c3 (show Kd.M k25 _ _ _ (⟨t981, t982, true⟩ : S25) [.int .i64 t981, .int .i64 t982, .bool true] from (k25_mkM _ _ _ (⟨t981, t982, true⟩ : S25) )) (Reps.c3 (show Kd.M k25 _ _ _ (⟨t1023, t1024, t1025⟩ : S25) [.int .i64 t1023, .int .i64 t1024, .bool t1025] from (k25_mkM _ _ _ (⟨t1023, t1024, t1025⟩ : S25) )) (Reps.none _ _))))
           intro v1027 w105 ho106 hb hg_ hnew_
           clear hg_ hnew_
           (first | rw [← Ny1026.out] at ho106 | (simp only [Int.reduceToNat] at ho106; rw [← Ny1026.out] at ho106))
           have HO1028 := Aside0.mk (Kd.R_lower (Kd.R_newB (Kd.R_newB (Kd.R_newB (Kd.R_newB (Kd.R_newB (Kd.R_newB (Kd.R_newB (Kd.R_newB (Kd.R_new' (Kd.R_new' (Kd.R_new' ho106 (Kd.R_lt (rP HO1000))) (Kd.R_lt (rP HO1002))) (Kd.R_lt (rP HO1031))) (bP BK990)) (bP BK991)) (bP BK992)) (bP BK1012)) (bP BK1013)) (bP BK1014)) (bP BK1021)) (bP BK1022)) (below_size (bZ HB)))
           replace HO1000 := Aside0.mk (Kd.R_elder' (rP HO1000) (Kd.R_base ho106) hb)
           replace HO1002 := Aside0.mk (Kd.R_elder' (rP HO1002) (Kd.R_base ho106) hb)
           replace HO1031 := Aside0.mk (Kd.R_elder' (rP HO1031) (Kd.R_base ho106) hb)
           replace BK990 := bB BK990 hb
           replace BK991 := bB BK991 hb
           replace BK992 := bB BK992 hb
           replace BK993 := bB BK993 hb
           replace BK996 := bB BK996 hb
           replace BK1012 := bB BK1012 hb
           replace BK1013 := bB BK1013 hb
           replace BK1014 := bB BK1014 hb
           replace BK1021 := bB BK1021 hb
           replace BK1022 := bB BK1022 hb
           replace HB := bS HB hb
           clear hb ho106
           refine hK.out _ _ (bS2 BK996 (bS2 BK993 (bS3 BK990 (bS3 BK991 (bS3 BK1012 (bS3 BK1013 (bS3 BK1014 (bS3 BK1021 (bT3 BK1022))))))))) (fun hHeld => ?_)
           clear hK K
           refine nO (some 57) ?_
           exact norm_ (by simp only [putAll, Act.put, List.setIfInBounds_toArray, List.set_cons_zero, List.set_cons_succ]) (hCont (v1027, v1030) _ ⟨hHeld, (by (with_reducible repeat (first | apply Kd.R_alloc | apply Kd.R_drewN | apply Kd.R_drew)); exact Kd.R_mono HO1000.out (fun _ hk => ⟨hk.1.1.1, ⟨hk.2, ⟨hk.1.2, ⟨hk.1.1.2.1, ⟨hk.1.1.2.2.1, ⟨hk.1.1.2.2.2.1, ⟨hk.1.1.2.2.2.2.1, ⟨hk.1.1.2.2.2.2.2.1, ⟨hk.1.1.2.2.2.2.2.2.1, ⟨hk.1.1.2.2.2.2.2.2.2.1, hk.1.1.2.2.2.2.2.2.2.2⟩⟩⟩⟩⟩⟩⟩⟩⟩⟩)), (by (with_reducible repeat (first | apply Kd.R_alloc | apply Kd.R_drewN | apply Kd.R_drew)); exact Kd.R_mono HO1002.out (fun _ hk => ⟨hk.1.1.1, ⟨hk.2, ⟨hk.1.2, ⟨hk.1.1.2.1, ⟨hk.1.1.2.2.1, ⟨hk.1.1.2.2.2.1, ⟨hk.1.1.2.2.2.2.1, ⟨hk.1.1.2.2.2.2.2.1, ⟨hk.1.1.2.2.2.2.2.2.1, ⟨hk.1.1.2.2.2.2.2.2.2.1, hk.1.1.2.2.2.2.2.2.2.2⟩⟩⟩⟩⟩⟩⟩⟩⟩⟩)), (by (with_reducible repeat (first | apply Kd.R_alloc | apply Kd.R_drewN | apply Kd.R_drew)); exact Kd.R_mono HO1028.out (fun _ hk => ⟨hk.1.1.1.1.1.1.1.1.1.1.2, ⟨hk.1.1.1.1.1.1.1.1.1.2, ⟨hk.1.1.1.1.1.1.1.1.2, ⟨hk.1.1.1.1.1.1.1.2, ⟨hk.1.1.1.1.1.1.2, ⟨hk.1.1.1.1.1.2, ⟨hk.1.1.1.1.2, ⟨hk.1.1.1.2, ⟨hk.1.1.2, ⟨hk.1.2, hk.2⟩⟩⟩⟩⟩⟩⟩⟩⟩⟩)), (by (with_reducible repeat (first | apply Kd.R_alloc | apply Kd.R_drewN | apply Kd.R_drew)); exact Kd.R_mono HO1031.out (fun _ hk => ⟨hk.1.1.1.1.1.1.1.1.1.1.2, ⟨hk.1.1.1.1.1.1.1.1.1.2, ⟨hk.2, ⟨hk.1.1.1.1.1.1.1.1.2, ⟨hk.1.1.1.1.1.1.1.2, ⟨hk.1.1.1.1.1.1.2, ⟨hk.1.1.1.1.1.2, ⟨hk.1.1.1.1.2, ⟨hk.1.1.1.2, ⟨hk.1.1.2, hk.1.2⟩⟩⟩⟩⟩⟩⟩⟩⟩⟩)), (bP BK1012), (bP BK1013), (bP BK1014), (bP BK1021), (bP BK1022), (bP BK990), (bP BK991), (bP BK992), (bP BK993), (bP BK996), (bZ HB)⟩)
         ·skip
          refine Kd.R_lit_step k25 _ 25 ?hg (N := 60) ?hd (xs := ([(⟨t984, t985, t986⟩ : S25), (⟨t984, t985, t986⟩ : S25)] : List (S25))) (inner := [.int .i64 t984, .int .i64 t985, .bool t986, .int .i64 t984, .int .i64 t985, .bool t986]) (ok := fun _ => True) (okp := fun _ => True) ?hr ?hp (fun _ hk => hk) trivial (Below.refl _ _) (Nat.le_refl _) (by simp) ?_; (case hd => rfl); (case hg => rfl); (case hr => first | (go_simp; done) | (go_simp; rfl)); (case hp => exact (Reps.c3 (show Kd.M k25 _ _ _ (⟨t984, t985, t986⟩ : S25) [.int .i64 t984, .int .i64 t985, .bool t986] from (k25_mkM _ _ _ (⟨t984, t985, t986⟩ : S25) )) (Reps.c3 (show Kd.M k25 _ _ _ (⟨t984, t985, t986⟩ : S25) [.int .i64 t984, .int .i64 t985, .bool t986] from (k25_mkM _ _ _ (⟨t984, t985, t986⟩ : S25) )) (Reps.none _ _))))
          intro v1030 w102 ho103 hb hg_ hnew_
          clear hg_ hnew_
          (first | rw [← Ny1029.out] at ho103 | (simp only [Int.reduceToNat] at ho103; rw [← Ny1029.out] at ho103))
          have HO1031 := Aside0.mk (Kd.R_lower (Kd.R_newB (Kd.R_newB (Kd.R_newB (Kd.R_newB (Kd.R_newB (Kd.R_newB (Kd.R_newB (Kd.R_newB (Kd.R_new' (Kd.R_new' ho103 (Kd.R_lt (rP HO1000))) (Kd.R_lt (rP HO1002))) (bP BK990)) (bP BK991)) (bP BK992)) (bP BK1012)) (bP BK1013)) (bP BK1014)) (bP BK1021)) (bP BK1022)) (below_size (bZ HB)))
          replace HO1000 := Aside0.mk (Kd.R_elder' (rP HO1000) (Kd.R_base ho103) hb)
          replace HO1002 := Aside0.mk (Kd.R_elder' (rP HO1002) (Kd.R_base ho103) hb)
          replace BK990 := bB BK990 hb
          replace BK991 := bB BK991 hb
          replace BK992 := bB BK992 hb
          replace BK993 := bB BK993 hb
          replace BK996 := bB BK996 hb
          replace BK1012 := bB BK1012 hb
          replace BK1013 := bB BK1013 hb
          replace BK1014 := bB BK1014 hb
          replace BK1021 := bB BK1021 hb
          replace BK1022 := bB BK1022 hb
          replace HB := bS HB hb
          clear hb ho103
          refine hK.out _ _ (bS2 BK996 (bS2 BK993 (bS3 BK990 (bS3 BK991 (bS3 BK1012 (bS3 BK1013 (bS3 BK1014 (bS3 BK1021 (bT3 BK1022))))))))) (fun hHeld => ?_)
          clear hK K
          refine nO (some 60) ?_
          refine oI 13 (some 56) HT_.out (fun K hK => ?_)
          refine gO Try.func30 #[.agg #[.int .i64 t981, .int .i64 t982, .bool true]] ?_
          with_reducible refine (impl_PointNeg.calls t981 t982 true t1023 t1024 t1025 _ A11.out).mono ?_
          rintro e w104 ⟨rfl, hb⟩
          refine ⟨_, rfl, ?_⟩
          replace HO1000 := Aside0.mk (Kd.R_below (rP HO1000) hb)
          replace HO1002 := Aside0.mk (Kd.R_below (rP HO1002) hb)
          replace HO1031 := Aside0.mk (Kd.R_below (rP HO1031) hb)
          replace BK990 := bB BK990 hb
          replace BK991 := bB BK991 hb
          replace BK992 := bB BK992 hb
          replace BK993 := bB BK993 hb
          replace BK996 := bB BK996 hb
          replace BK1012 := bB BK1012 hb
          replace BK1013 := bB BK1013 hb
          replace BK1014 := bB BK1014 hb
          replace BK1021 := bB BK1021 hb
          replace BK1022 := bB BK1022 hb
          replace HB := bS HB hb
          (try clear hb)
          refine hK.out _ _ (bS2 BK996 (bS2 BK993 (bS3 BK990 (bS3 BK991 (bS3 BK1012 (bS3 BK1013 (bS3 BK1014 (bS3 BK1021 (bT3 BK1022))))))))) (fun hHeld => ?_)
          clear hK K
          refine nO (some 56) ?_
          refine oI 14 (some 57) HT_.out (fun K hK => ?_)
          refine Kd.R_lit_step k25 _ 25 ?hg (N := 57) ?hd (xs := ([(⟨t981, t982, true⟩ : S25), (⟨t1023, t1024, t1025⟩ : S25)] : List (S25))) (inner := [.int .i64 t981, .int .i64 t982, .bool true, .int .i64 t1023, .int .i64 t1024, .bool t1025]) (ok := fun _ => True) (okp := fun _ => True) ?hr ?hp (fun _ hk => hk) trivial (Below.refl _ _) (Nat.le_refl _) (by simp) ?_; (case hd => rfl); (case hg => rfl); (case hr => first | (go_simp; done) | (go_simp; rfl)); (case hp => exact (Reps.c3 (show Kd.M k25 _ _ _ (⟨t981, t982, true⟩ : S25) [.int .i64 t981, .int .i64 t982, .bool true] from (k25_mkM _ _ _ (⟨t981, t982, true⟩ : S25) )) (Reps.c3 (show Kd.M k25 _ _ _ (⟨t1023, t1024, t1025⟩ : S25) [.int .i64 t1023, .int .i64 t1024, .bool t1025] from (k25_mkM _ _ _ (⟨t1023, t1024, t1025⟩ : S25) )) (Reps.none _ _))))
          intro v1027 w105 ho106 hb hg_ hnew_
          clear hg_ hnew_
          (first | rw [← Ny1026.out] at ho106 | (simp only [Int.reduceToNat] at ho106; rw [← Ny1026.out] at ho106))
          have HO1028 := Aside0.mk (Kd.R_lower (Kd.R_newB (Kd.R_newB (Kd.R_newB (Kd.R_newB (Kd.R_newB (Kd.R_newB (Kd.R_newB (Kd.R_newB (Kd.R_new' (Kd.R_new' (Kd.R_new' ho106 (Kd.R_lt (rP HO1000))) (Kd.R_lt (rP HO1002))) (Kd.R_lt (rP HO1031))) (bP BK990)) (bP BK991)) (bP BK992)) (bP BK1012)) (bP BK1013)) (bP BK1014)) (bP BK1021)) (bP BK1022)) (below_size (bZ HB)))
          replace HO1000 := Aside0.mk (Kd.R_elder' (rP HO1000) (Kd.R_base ho106) hb)
          replace HO1002 := Aside0.mk (Kd.R_elder' (rP HO1002) (Kd.R_base ho106) hb)
          replace HO1031 := Aside0.mk (Kd.R_elder' (rP HO1031) (Kd.R_base ho106) hb)
          replace BK990 := bB BK990 hb
          replace BK991 := bB BK991 hb
          replace BK992 := bB BK992 hb
          replace BK993 := bB BK993 hb
          replace BK996 := bB BK996 hb
          replace BK1012 := bB BK1012 hb
          replace BK1013 := bB BK1013 hb
          replace BK1014 := bB BK1014 hb
          replace BK1021 := bB BK1021 hb
          replace BK1022 := bB BK1022 hb
          replace HB := bS HB hb
          clear hb ho106
          refine hK.out _ _ (bS2 BK996 (bS2 BK993 (bS3 BK990 (bS3 BK991 (bS3 BK1012 (bS3 BK1013 (bS3 BK1014 (bS3 BK1021 (bT3 BK1022))))))))) (fun hHeld => ?_)
          clear hK K
          refine nO (some 57) ?_
          exact norm_ (by simp only [putAll, Act.put, List.setIfInBounds_toArray, List.set_cons_zero, List.set_cons_succ]) (hCont (v1027, v1030) _ ⟨hHeld, (by (with_reducible repeat (first | apply Kd.R_alloc | apply Kd.R_drewN | apply Kd.R_drew)); exact Kd.R_mono HO1000.out (fun _ hk => ⟨hk.1.1.1, ⟨hk.2, ⟨hk.1.2, ⟨hk.1.1.2.1, ⟨hk.1.1.2.2.1, ⟨hk.1.1.2.2.2.1, ⟨hk.1.1.2.2.2.2.1, ⟨hk.1.1.2.2.2.2.2.1, ⟨hk.1.1.2.2.2.2.2.2.1, ⟨hk.1.1.2.2.2.2.2.2.2.1, hk.1.1.2.2.2.2.2.2.2.2⟩⟩⟩⟩⟩⟩⟩⟩⟩⟩)), (by (with_reducible repeat (first | apply Kd.R_alloc | apply Kd.R_drewN | apply Kd.R_drew)); exact Kd.R_mono HO1002.out (fun _ hk => ⟨hk.1.1.1, ⟨hk.2, ⟨hk.1.2, ⟨hk.1.1.2.1, ⟨hk.1.1.2.2.1, ⟨hk.1.1.2.2.2.1, ⟨hk.1.1.2.2.2.2.1, ⟨hk.1.1.2.2.2.2.2.1, ⟨hk.1.1.2.2.2.2.2.2.1, ⟨hk.1.1.2.2.2.2.2.2.2.1, hk.1.1.2.2.2.2.2.2.2.2⟩⟩⟩⟩⟩⟩⟩⟩⟩⟩)), (by (with_reducible repeat (first | apply Kd.R_alloc | apply Kd.R_drewN | apply Kd.R_drew)); exact Kd.R_mono HO1028.out (fun _ hk => ⟨hk.1.1.1.1.1.1.1.1.1.1.2, ⟨hk.1.1.1.1.1.1.1.1.1.2, ⟨hk.1.1.1.1.1.1.1.1.2, ⟨hk.1.1.1.1.1.1.1.2, ⟨hk.1.1.1.1.1.1.2, ⟨hk.1.1.1.1.1.2, ⟨hk.1.1.1.1.2, ⟨hk.1.1.1.2, ⟨hk.1.1.2, ⟨hk.1.2, hk.2⟩⟩⟩⟩⟩⟩⟩⟩⟩⟩)), (by (with_reducible repeat (first | apply Kd.R_alloc | apply Kd.R_drewN | apply Kd.R_drew)); exact Kd.R_mono HO1031.out (fun _ hk => ⟨hk.1.1.1.1.1.1.1.1.1.1.2, ⟨hk.1.1.1.1.1.1.1.1.1.2, ⟨hk.2, ⟨hk.1.1.1.1.1.1.1.1.2, ⟨hk.1.1.1.1.1.1.1.2, ⟨hk.1.1.1.1.1.1.2, ⟨hk.1.1.1.1.1.2, ⟨hk.1.1.1.1.2, ⟨hk.1.1.1.2, ⟨hk.1.1.2, hk.1.2⟩⟩⟩⟩⟩⟩⟩⟩⟩⟩)), (bP BK1012), (bP BK1013), (bP BK1014), (bP BK1021), (bP BK1022), (bP BK990), (bP BK991), (bP BK992), (bP BK993), (bP BK996), (bZ HB)⟩)
        rintro ⟨v1027, v1030⟩ w107 ⟨hS_, h0_, h1_, h2_, h3_, h4_, h5_, h6_, h7_, h8_, h9_, h10_, h11_, h12_, h13_, h14_⟩
        replace HO1000 : Aside0 (Kd.R k25 25 w107 w.heap.size (fun k_ => some k_ ≠ (.slice Ao99 t998.length co99 : Value).ownBlock ∧ some k_ ≠ (v1027 : Value).ownBlock ∧ some k_ ≠ (v1030 : Value).ownBlock ∧ k_ ≠ gb990 ∧ k_ ≠ gb991 ∧ k_ ≠ gb992 ∧ k_ ≠ gb1012 ∧ k_ ≠ gb1013 ∧ k_ ≠ gb1014 ∧ k_ ≠ gb1021 ∧ k_ ≠ gb1022) (.slice Ao98 t997.length co98) t997) := ⟨h0_⟩
        replace HO1002 : Aside0 (Kd.R k25 25 w107 w.heap.size (fun k_ => some k_ ≠ (.slice Ao98 t997.length co98 : Value).ownBlock ∧ some k_ ≠ (v1027 : Value).ownBlock ∧ some k_ ≠ (v1030 : Value).ownBlock ∧ k_ ≠ gb990 ∧ k_ ≠ gb991 ∧ k_ ≠ gb992 ∧ k_ ≠ gb1012 ∧ k_ ≠ gb1013 ∧ k_ ≠ gb1014 ∧ k_ ≠ gb1021 ∧ k_ ≠ gb1022) (.slice Ao99 t998.length co99) t998) := ⟨h1_⟩
        have HO1028 : Aside0 (Kd.R k25 25 w107 w.heap.size (fun k_ => some k_ ≠ (.slice Ao98 t997.length co98 : Value).ownBlock ∧ some k_ ≠ (.slice Ao99 t998.length co99 : Value).ownBlock ∧ some k_ ≠ (v1030 : Value).ownBlock ∧ k_ ≠ gb990 ∧ k_ ≠ gb991 ∧ k_ ≠ gb992 ∧ k_ ≠ gb1012 ∧ k_ ≠ gb1013 ∧ k_ ≠ gb1014 ∧ k_ ≠ gb1021 ∧ k_ ≠ gb1022) v1027 y1026) := ⟨h2_⟩
        have HO1031 : Aside0 (Kd.R k25 25 w107 w.heap.size (fun k_ => some k_ ≠ (.slice Ao98 t997.length co98 : Value).ownBlock ∧ some k_ ≠ (.slice Ao99 t998.length co99 : Value).ownBlock ∧ some k_ ≠ (v1027 : Value).ownBlock ∧ k_ ≠ gb990 ∧ k_ ≠ gb991 ∧ k_ ≠ gb992 ∧ k_ ≠ gb1012 ∧ k_ ≠ gb1013 ∧ k_ ≠ gb1014 ∧ k_ ≠ gb1021 ∧ k_ ≠ gb1022) v1030 y1029) := ⟨h3_⟩
        replace BK1012 : Aside0 (w107.heap[gb1012]? = some (.cells #[.int .i64 t1003, .int .i64 t1004, .bool t1005] 25 (0, 0))) := ⟨h4_⟩
        replace BK1013 : Aside0 (w107.heap[gb1013]? = some (.cells #[.int .i64 t1006, .int .i64 t1007, .bool t1008] 25 (0, 0))) := ⟨h5_⟩
        replace BK1014 : Aside0 (w107.heap[gb1014]? = some (.cells #[.int .i64 t1009, .int .i64 t1010, .bool t1011] 25 (0, 0))) := ⟨h6_⟩
        replace BK1021 : Aside0 (w107.heap[gb1021]? = some (.cells #[.int .i64 t1015, .int .i64 t1016, .bool t1017] 25 (0, 0))) := ⟨h7_⟩
        replace BK1022 : Aside0 (w107.heap[gb1022]? = some (.cells #[.int .i64 t1018, .int .i64 t1019, .bool t1020] 25 (0, 0))) := ⟨h8_⟩
        replace BK990 : Aside0 (w107.heap[gb990]? = some (.cells #[.int .i64 t981, .int .i64 t982, .bool true] 25 (0, 0))) := ⟨h9_⟩
        replace BK991 : Aside0 (w107.heap[gb991]? = some (.cells #[.int .i64 t984, .int .i64 t985, .bool t986] 25 (0, 0))) := ⟨h10_⟩
        replace BK992 : Aside0 (w107.heap[gb992]? = some (.cells #[.int .i64 t987, .int .i64 t988, .bool t989] 25 (0, 0))) := ⟨h11_⟩
        replace BK993 : Aside0 (w107.heap[gb993]? = some (.cells #[.int .i64 1, .int .i64 0] 31 (0, 0))) := ⟨h12_⟩
        replace BK996 : Aside0 (w107.heap[gb996]? = some (.cells #[.int .i64 t994, .int .i64 t995] 31 (0, 0))) := ⟨h13_⟩
        replace HB : Aside0 (Below w.heap.size w w107) := ⟨h14_⟩
        clear h0_ h1_ h2_ h3_ h4_ h5_ h6_ h7_ h8_ h9_ h10_ h11_ h12_ h13_ h14_
        have hHeld : w107.cell? ⟨gb996, 0, none⟩ = some (.int .i64 t994) ∧ w107.cell? ⟨gb996, 1, none⟩ = some (.int .i64 t995) ∧ w107.cell? ⟨gb993, 0, none⟩ = some (.int .i64 1) ∧ w107.cell? ⟨gb993, 1, none⟩ = some (.int .i64 0) ∧ w107.cell? ⟨gb990, 0, none⟩ = some (.int .i64 t981) ∧ w107.cell? ⟨gb990, 1, none⟩ = some (.int .i64 t982) ∧ w107.cell? ⟨gb990, 2, none⟩ = some (.bool true) ∧ w107.cell? ⟨gb991, 0, none⟩ = some (.int .i64 t984) ∧ w107.cell? ⟨gb991, 1, none⟩ = some (.int .i64 t985) ∧ w107.cell? ⟨gb991, 2, none⟩ = some (.bool t986) ∧ w107.cell? ⟨gb1012, 0, none⟩ = some (.int .i64 t1003) ∧ w107.cell? ⟨gb1012, 1, none⟩ = some (.int .i64 t1004) ∧ w107.cell? ⟨gb1012, 2, none⟩ = some (.bool t1005) ∧ w107.cell? ⟨gb1013, 0, none⟩ = some (.int .i64 t1006) ∧ w107.cell? ⟨gb1013, 1, none⟩ = some (.int .i64 t1007) ∧ w107.cell? ⟨gb1013, 2, none⟩ = some (.bool t1008) ∧ w107.cell? ⟨gb1014, 0, none⟩ = some (.int .i64 t1009) ∧ w107.cell? ⟨gb1014, 1, none⟩ = some (.int .i64 t1010) ∧ w107.cell? ⟨gb1014, 2, none⟩ = some (.bool t1011) ∧ w107.cell? ⟨gb1021, 0, none⟩ = some (.int .i64 t1015) ∧ w107.cell? ⟨gb1021, 1, none⟩ = some (.int .i64 t1016) ∧ w107.cell? ⟨gb1021, 2, none⟩ = some (.bool t1017) ∧ w107.cell? ⟨gb1022, 0, none⟩ = some (.int .i64 t1018) ∧ w107.cell? ⟨gb1022, 1, none⟩ = some (.int .i64 t1019) ∧ w107.cell? ⟨gb1022, 2, none⟩ = some (.bool t1020) := hS_
        obtain ⟨Ao108, co108, eo108⟩ := Kd.R_slice HO1028.out
        (first | subst eo108 | (injection eo108 with f1_ f2_ f3_; have f4_ := f1_.symm; have f5_ := f3_.symm; clear f1_ f2_ f3_; subst f4_; subst f5_))
        obtain ⟨Ao109, co109, eo109⟩ := Kd.R_slice HO1031.out
        (first | subst eo109 | (injection eo109 with f1_ f2_ f3_; have f4_ := f1_.symm; have f5_ := f3_.symm; clear f1_ f2_ f3_; subst f4_; subst f5_))
        refine norm_ (a' := ?_) ?_ ?_
        rotate_left
        ·simp only [putAll, Act.put, List.setIfInBounds_toArray, List.set_cons_zero, List.set_cons_succ]
         rfl
        refine oI 18 (some 61) HT_.out (fun K hK => ?_)
        refine gO Try.func42 #[.slice Ao108 y1026.length co108, .slice Ao109 y1029.length co109] ?_
        with_reducible refine (impl_PairsRight.calls k _ _ y1026 _ _ y1029 true _ ?side1 ?side2 ?side3 ?side4 A12.out).mono ?_
        (case side1 => exact cP ((Kd.R_reads' HO1028.out).2.2))
        (case side2 => exact (Kd.R_reads' HO1028.out).2.1)
        (case side3 => exact cP ((Kd.R_reads' HO1031.out).2.2))
        (case side4 => exact (Kd.R_reads' HO1031.out).2.1)
        rintro e w110 ⟨rfl, hb⟩
        refine ⟨_, rfl, ?_⟩
        replace HO1000 := Aside0.mk (Kd.R_below (rP HO1000) hb)
        replace HO1002 := Aside0.mk (Kd.R_below (rP HO1002) hb)
        replace HO1028 := Aside0.mk (Kd.R_below (rP HO1028) hb)
        replace HO1031 := Aside0.mk (Kd.R_below (rP HO1031) hb)
        replace BK990 := bB BK990 hb
        replace BK991 := bB BK991 hb
        replace BK992 := bB BK992 hb
        replace BK993 := bB BK993 hb
        replace BK996 := bB BK996 hb
        replace BK1012 := bB BK1012 hb
        replace BK1013 := bB BK1013 hb
        replace BK1014 := bB BK1014 hb
        replace BK1021 := bB BK1021 hb
        replace BK1022 := bB BK1022 hb
        replace HB := bS HB hb
        (try clear hb)
        refine hK.out _ _ (bS2 BK996 (bS2 BK993 (bS3 BK990 (bS3 BK991 (bS3 BK1012 (bS3 BK1013 (bS3 BK1014 (bS3 BK1021 (bT3 BK1022))))))))) (fun hHeld => ?_)
        clear hK K
        refine nO (some 61) ?_
        refine pI 19 (some 62) HT_.out ?_
        refine pI 20 (some 63) HT_.out ?_
        refine pI 21 (some 64) HT_.out ?_
        refine pI 22 (some 65) HT_.out ?_
        refine pI 24 (some 67) HT_.out ?_
        refine pI 25 (some 68) HT_.out ?_
        refine oI 23 (some 66) HT_.out (fun K hK => ?_)
        refine gO Try.func42 #[.slice Ao98 t997.length co98, .slice Ao99 t998.length co99] ?_
        with_reducible refine (impl_PairsRight.calls k _ _ t997 _ _ t998 t1033 _ ?side1 ?side2 ?side3 ?side4 A14.out).mono ?_
        (case side1 => exact cP ((Kd.R_reads' HO1000.out).2.2))
        (case side2 => exact (Kd.R_reads' HO1000.out).2.1)
        (case side3 => exact cP ((Kd.R_reads' HO1002.out).2.2))
        (case side4 => exact (Kd.R_reads' HO1002.out).2.1)
        rintro e w111 ⟨rfl, hb⟩
        refine ⟨_, rfl, ?_⟩
        replace HO1000 := Aside0.mk (Kd.R_below (rP HO1000) hb)
        replace HO1002 := Aside0.mk (Kd.R_below (rP HO1002) hb)
        replace HO1028 := Aside0.mk (Kd.R_below (rP HO1028) hb)
        replace HO1031 := Aside0.mk (Kd.R_below (rP HO1031) hb)
        replace BK990 := bB BK990 hb
        replace BK991 := bB BK991 hb
        replace BK992 := bB BK992 hb
        replace BK993 := bB BK993 hb
        replace BK996 := bB BK996 hb
        replace BK1012 := bB BK1012 hb
        replace BK1013 := bB BK1013 hb
        replace BK1014 := bB BK1014 hb
        replace BK1021 := bB BK1021 hb
        replace BK1022 := bB BK1022 hb
        replace HB := bS HB hb
        (try clear hb)
        refine hK.out _ _ (bS2 BK996 (bS2 BK993 (bS3 BK990 (bS3 BK991 (bS3 BK1012 (bS3 BK1013 (bS3 BK1014 (bS3 BK1021 (bT3 BK1022))))))))) (fun hHeld => ?_)
        clear hK K
        refine nO (some 66) ?_
        refine oI 26 (some 69) HT_.out (fun K hK => ?_)
        refine gO Try.func41 #[.slice Ao98 t997.length co98, .slice Ao99 t998.length co99] ?_
        with_reducible refine (spec_PairsRight.calls k _ _ t997 _ _ t998 t1034 _ ?side1 ?side2 ?side3 ?side4 A15.out).mono ?_
        (case side1 => exact cP ((Kd.R_reads' HO1000.out).2.2))
        (case side2 => exact (Kd.R_reads' HO1000.out).2.1)
        (case side3 => exact cP ((Kd.R_reads' HO1002.out).2.2))
        (case side4 => exact (Kd.R_reads' HO1002.out).2.1)
        rintro e w112 ⟨rfl, hb⟩
        refine ⟨_, rfl, ?_⟩
        replace HO1000 := Aside0.mk (Kd.R_below (rP HO1000) hb)
        replace HO1002 := Aside0.mk (Kd.R_below (rP HO1002) hb)
        replace HO1028 := Aside0.mk (Kd.R_below (rP HO1028) hb)
        replace HO1031 := Aside0.mk (Kd.R_below (rP HO1031) hb)
        replace BK990 := bB BK990 hb
        replace BK991 := bB BK991 hb
        replace BK992 := bB BK992 hb
        replace BK993 := bB BK993 hb
        replace BK996 := bB BK996 hb
        replace BK1012 := bB BK1012 hb
        replace BK1013 := bB BK1013 hb
        replace BK1014 := bB BK1014 hb
        replace BK1021 := bB BK1021 hb
        replace BK1022 := bB BK1022 hb
        replace HB := bS HB hb
        (try clear hb)
        refine hK.out _ _ (bS2 BK996 (bS2 BK993 (bS3 BK990 (bS3 BK991 (bS3 BK1012 (bS3 BK1013 (bS3 BK1014 (bS3 BK1021 (bT3 BK1022))))))))) (fun hHeld => ?_)
        clear hK K
        refine nO (some 69) ?_
        refine pI 27 (some 70) HT_.out ?_
        refine pI 28 (some 71) HT_.out ?_
        refine pI 29 (some 72) HT_.out ?_
        refine tI25 30 (some 73) HT_.out HW_.out hHeld ?_
        refine tI25 31 (some 74) HT_.out HW_.out hHeld ?_
        refine tI25 32 (some 75) HT_.out HW_.out hHeld ?_
        refine tI25 34 (some 77) HT_.out HW_.out hHeld ?_
        refine tI25 35 (some 78) HT_.out HW_.out hHeld ?_
        refine tI25 36 (some 79) HT_.out HW_.out hHeld ?_
        refine oI 33 (some 76) HT_.out (fun K hK => ?_)
        refine gO Try.func25 #[.agg #[.int .i64 t1003, .int .i64 t1004, .bool t1005], .agg #[.int .i64 t1006, .int .i64 t1007, .bool t1008], .agg #[.int .i64 t1009, .int .i64 t1010, .bool t1011]] ?_
        with_reducible refine (impl_PairLine.calls k t1003 t1004 t1005 t1006 t1007 t1008 t1009 t1010 t1011 t1035 t1036 _ A17.out).mono ?_
        rintro e w113 ⟨rfl, hb⟩
        refine ⟨_, rfl, ?_⟩
        replace HO1000 := Aside0.mk (Kd.R_below (rP HO1000) hb)
        replace HO1002 := Aside0.mk (Kd.R_below (rP HO1002) hb)
        replace HO1028 := Aside0.mk (Kd.R_below (rP HO1028) hb)
        replace HO1031 := Aside0.mk (Kd.R_below (rP HO1031) hb)
        replace BK990 := bB BK990 hb
        replace BK991 := bB BK991 hb
        replace BK992 := bB BK992 hb
        replace BK993 := bB BK993 hb
        replace BK996 := bB BK996 hb
        replace BK1012 := bB BK1012 hb
        replace BK1013 := bB BK1013 hb
        replace BK1014 := bB BK1014 hb
        replace BK1021 := bB BK1021 hb
        replace BK1022 := bB BK1022 hb
        replace HB := bS HB hb
        (try clear hb)
        refine hK.out _ _ (bS2 BK996 (bS2 BK993 (bS3 BK990 (bS3 BK991 (bS3 BK1012 (bS3 BK1013 (bS3 BK1014 (bS3 BK1021 (bT3 BK1022))))))))) (fun hHeld => ?_)
        clear hK K
        refine nO (some 76) ?_
        refine oI 37 (some 80) HT_.out (fun K hK => ?_)
        refine gO Try.func23 #[.agg #[.int .i64 t1003, .int .i64 t1004, .bool t1005], .agg #[.int .i64 t1006, .int .i64 t1007, .bool t1008], .agg #[.int .i64 t1009, .int .i64 t1010, .bool t1011]] ?_
        with_reducible refine (spec_PairLine.calls k t1003 t1004 t1005 t1006 t1007 t1008 t1009 t1010 t1011 t1037 t1038 _ A18.out).mono ?_
        rintro e w114 ⟨rfl, hb⟩
        refine ⟨_, rfl, ?_⟩
        replace HO1000 := Aside0.mk (Kd.R_below (rP HO1000) hb)
        replace HO1002 := Aside0.mk (Kd.R_below (rP HO1002) hb)
        replace HO1028 := Aside0.mk (Kd.R_below (rP HO1028) hb)
        replace HO1031 := Aside0.mk (Kd.R_below (rP HO1031) hb)
        replace BK990 := bB BK990 hb
        replace BK991 := bB BK991 hb
        replace BK992 := bB BK992 hb
        replace BK993 := bB BK993 hb
        replace BK996 := bB BK996 hb
        replace BK1012 := bB BK1012 hb
        replace BK1013 := bB BK1013 hb
        replace BK1014 := bB BK1014 hb
        replace BK1021 := bB BK1021 hb
        replace BK1022 := bB BK1022 hb
        replace HB := bS HB hb
        (try clear hb)
        refine hK.out _ _ (bS2 BK996 (bS2 BK993 (bS3 BK990 (bS3 BK991 (bS3 BK1012 (bS3 BK1013 (bS3 BK1014 (bS3 BK1021 (bT3 BK1022))))))))) (fun hHeld => ?_)
        clear hK K
        refine nO (some 80) ?_
        refine pI 38 (some 81) HT_.out ?_
        refine pI 39 (some 82) HT_.out ?_
        refine pI 40 (some 83) HT_.out ?_
        refine tI25 41 (some 84) HT_.out HW_.out hHeld ?_
        refine tI25 42 (some 85) HT_.out HW_.out hHeld ?_
        refine tI25 44 (some 87) HT_.out HW_.out hHeld ?_
        refine tI25 45 (some 88) HT_.out HW_.out hHeld ?_
        refine oI 43 (some 86) HT_.out (fun K hK => ?_)
        refine gO Try.func40 #[.agg #[.int .i64 t1015, .int .i64 t1016, .bool t1017], .agg #[.int .i64 t1018, .int .i64 t1019, .bool t1020]] ?_
        with_reducible refine (impl_Miller.calls k t1015 t1016 t1017 t1018 t1019 t1020 t1039 t1040 _ A20.out).mono ?_
        rintro e w115 ⟨rfl, hb⟩
        refine ⟨_, rfl, ?_⟩
        replace HO1000 := Aside0.mk (Kd.R_below (rP HO1000) hb)
        replace HO1002 := Aside0.mk (Kd.R_below (rP HO1002) hb)
        replace HO1028 := Aside0.mk (Kd.R_below (rP HO1028) hb)
        replace HO1031 := Aside0.mk (Kd.R_below (rP HO1031) hb)
        replace BK990 := bB BK990 hb
        replace BK991 := bB BK991 hb
        replace BK992 := bB BK992 hb
        replace BK993 := bB BK993 hb
        replace BK996 := bB BK996 hb
        replace BK1012 := bB BK1012 hb
        replace BK1013 := bB BK1013 hb
        replace BK1014 := bB BK1014 hb
        replace BK1021 := bB BK1021 hb
        replace BK1022 := bB BK1022 hb
        replace HB := bS HB hb
        (try clear hb)
        refine hK.out _ _ (bS2 BK996 (bS2 BK993 (bS3 BK990 (bS3 BK991 (bS3 BK1012 (bS3 BK1013 (bS3 BK1014 (bS3 BK1021 (bT3 BK1022))))))))) (fun hHeld => ?_)
        clear hK K
        refine nO (some 86) ?_
        refine oI 46 (some 89) HT_.out (fun K hK => ?_)
        refine gO Try.func39 #[.agg #[.int .i64 t1015, .int .i64 t1016, .bool t1017], .agg #[.int .i64 t1018, .int .i64 t1019, .bool t1020]] ?_
        with_reducible refine (spec_Miller.calls k t1015 t1016 t1017 t1018 t1019 t1020 t1041 t1042 _ A21.out).mono ?_
        rintro e w116 ⟨rfl, hb⟩
        refine ⟨_, rfl, ?_⟩
        replace HO1000 := Aside0.mk (Kd.R_below (rP HO1000) hb)
        replace HO1002 := Aside0.mk (Kd.R_below (rP HO1002) hb)
        replace HO1028 := Aside0.mk (Kd.R_below (rP HO1028) hb)
        replace HO1031 := Aside0.mk (Kd.R_below (rP HO1031) hb)
        replace BK990 := bB BK990 hb
        replace BK991 := bB BK991 hb
        replace BK992 := bB BK992 hb
        replace BK993 := bB BK993 hb
        replace BK996 := bB BK996 hb
        replace BK1012 := bB BK1012 hb
        replace BK1013 := bB BK1013 hb
        replace BK1014 := bB BK1014 hb
        replace BK1021 := bB BK1021 hb
        replace BK1022 := bB BK1022 hb
        replace HB := bS HB hb
        (try clear hb)
        refine hK.out _ _ (bS2 BK996 (bS2 BK993 (bS3 BK990 (bS3 BK991 (bS3 BK1012 (bS3 BK1013 (bS3 BK1014 (bS3 BK1021 (bT3 BK1022))))))))) (fun hHeld => ?_)
        clear hK K
        refine nO (some 89) ?_
        refine pI 47 (some 90) HT_.out ?_
        refine pI 48 (some 91) HT_.out ?_
        refine pI 49 (some 92) HT_.out ?_
        refine pI 53 (some 96) HT_.out ?_
        refine oI 50 (some 93) HT_.out (fun K hK => ?_)
        refine gO Try.func54 #[] ?_
        with_reducible refine (impl_Base.calls  t1043 t1044 t1045 _ A23.out).mono ?_
        rintro e w117 ⟨rfl, hb⟩
        refine ⟨_, rfl, ?_⟩
        replace HO1000 := Aside0.mk (Kd.R_below (rP HO1000) hb)
        replace HO1002 := Aside0.mk (Kd.R_below (rP HO1002) hb)
        replace HO1028 := Aside0.mk (Kd.R_below (rP HO1028) hb)
        replace HO1031 := Aside0.mk (Kd.R_below (rP HO1031) hb)
        replace BK990 := bB BK990 hb
        replace BK991 := bB BK991 hb
        replace BK992 := bB BK992 hb
        replace BK993 := bB BK993 hb
        replace BK996 := bB BK996 hb
        replace BK1012 := bB BK1012 hb
        replace BK1013 := bB BK1013 hb
        replace BK1014 := bB BK1014 hb
        replace BK1021 := bB BK1021 hb
        replace BK1022 := bB BK1022 hb
        replace HB := bS HB hb
        (try clear hb)
        refine hK.out _ _ (bS2 BK996 (bS2 BK993 (bS3 BK990 (bS3 BK991 (bS3 BK1012 (bS3 BK1013 (bS3 BK1014 (bS3 BK1021 (bT3 BK1022))))))))) (fun hHeld => ?_)
        clear hK K
        refine nO (some 93) ?_
        refine oI 51 (some 94) HT_.out (fun K hK => ?_)
        refine gO Try.func54 #[] ?_
        with_reducible refine (impl_Base.calls  t1046 t1047 t1048 _ A24.out).mono ?_
        rintro e w118 ⟨rfl, hb⟩
        refine ⟨_, rfl, ?_⟩
        replace HO1000 := Aside0.mk (Kd.R_below (rP HO1000) hb)
        replace HO1002 := Aside0.mk (Kd.R_below (rP HO1002) hb)
        replace HO1028 := Aside0.mk (Kd.R_below (rP HO1028) hb)
        replace HO1031 := Aside0.mk (Kd.R_below (rP HO1031) hb)
        replace BK990 := bB BK990 hb
        replace BK991 := bB BK991 hb
        replace BK992 := bB BK992 hb
        replace BK993 := bB BK993 hb
        replace BK996 := bB BK996 hb
        replace BK1012 := bB BK1012 hb
        replace BK1013 := bB BK1013 hb
        replace BK1014 := bB BK1014 hb
        replace BK1021 := bB BK1021 hb
        replace BK1022 := bB BK1022 hb
        replace HB := bS HB hb
        (try clear hb)
        refine hK.out _ _ (bS2 BK996 (bS2 BK993 (bS3 BK990 (bS3 BK991 (bS3 BK1012 (bS3 BK1013 (bS3 BK1014 (bS3 BK1021 (bT3 BK1022))))))))) (fun hHeld => ?_)
        clear hK K
        refine nO (some 94) ?_
        refine oI 52 (some 95) HT_.out (fun K hK => ?_)
        refine gO Try.func17 #[.agg #[.int .i64 t1043, .int .i64 t1044, .bool t1045], .agg #[.int .i64 t1046, .int .i64 t1047, .bool t1048]] ?_
        with_reducible refine (impl_Pairing.calls k t1043 t1044 t1045 t1046 t1047 t1048 t1049 t1050 _ A25.out).mono ?_
        rintro e w119 ⟨rfl, hb⟩
        refine ⟨_, rfl, ?_⟩
        replace HO1000 := Aside0.mk (Kd.R_below (rP HO1000) hb)
        replace HO1002 := Aside0.mk (Kd.R_below (rP HO1002) hb)
        replace HO1028 := Aside0.mk (Kd.R_below (rP HO1028) hb)
        replace HO1031 := Aside0.mk (Kd.R_below (rP HO1031) hb)
        replace BK990 := bB BK990 hb
        replace BK991 := bB BK991 hb
        replace BK992 := bB BK992 hb
        replace BK993 := bB BK993 hb
        replace BK996 := bB BK996 hb
        replace BK1012 := bB BK1012 hb
        replace BK1013 := bB BK1013 hb
        replace BK1014 := bB BK1014 hb
        replace BK1021 := bB BK1021 hb
        replace BK1022 := bB BK1022 hb
        replace HB := bS HB hb
        (try clear hb)
        refine hK.out _ _ (bS2 BK996 (bS2 BK993 (bS3 BK990 (bS3 BK991 (bS3 BK1012 (bS3 BK1013 (bS3 BK1014 (bS3 BK1021 (bT3 BK1022))))))))) (fun hHeld => ?_)
        clear hK K
        refine nO (some 95) ?_
        refine pI 54 (some 97) HT_.out ?_
        refine pI 55 (some 98) HT_.out ?_
        refine pI 56 (some 2) HT_.out ?_
        refine done_ (done_of HT_.out (by kernel_rfl)) ?_
        try go_wp2
        go_ret
        exact ⟨rR, bZ HB⟩
       ·rw [if_neg c22] at H
        have c22b0 : (t1039 == t1041 && (t1040 == t1042)) = false := by simpa using c22
        (try (have c22b1 : decide (t1039 = t1041 && (t1040 == t1042)) = false := by simpa using c22))
        (try (have c22b2 : (t1039 == t1041 && (t1040 == t1042)) = false := by simpa using c22))
        (try (have c22b3 : ¬ (t1039 = t1041 && (t1040 == t1042)) := by simpa using c22))
        clear c22
        exact absurd (Option.some.inj H) (by rw [htrue.out]; exact Bool.false_ne_true)
      ·rw [if_neg c19] at H
       have c19b0 : (t1035 == t1037 && (t1036 == t1038)) = false := by simpa using c19
       (try (have c19b1 : decide (t1035 = t1037 && (t1036 == t1038)) = false := by simpa using c19))
       (try (have c19b2 : (t1035 == t1037 && (t1036 == t1038)) = false := by simpa using c19))
       (try (have c19b3 : ¬ (t1035 = t1037 && (t1036 == t1038)) := by simpa using c19))
       clear c19
       exact absurd (Option.some.inj H) (by rw [htrue.out]; exact Bool.false_ne_true)
     ·rw [if_neg c16] at H
      have c16b0 : (t1033 == t1034) = false := by simpa using c16
      (try (have c16b1 : decide (t1033 = t1034) = false := by simpa using c16))
      (try (have c16b2 : (t1033 == t1034) = false := by simpa using c16))
      (try (have c16b3 : ¬ (t1033 = t1034) := by simpa using c16))
      clear c16
      exact absurd (Option.some.inj H) (by rw [htrue.out]; exact Bool.false_ne_true)
    ·replace c13 := Bool.eq_false_iff.mpr c13
     subst c13
     rw [if_neg (show ¬ (false = true) by decide)] at H
     exact absurd (Option.some.inj H) (by rw [htrue.out]; exact Bool.false_ne_true)
   ·rw [if_neg c10] at H
    have c10b0 : ((t994 == 1 && (t995 == 0)) == true) = false := by simpa using c10
    (try (have c10b1 : decide ((t994 == 1 && (t995 == 0)) = true) = false := by simpa using c10))
    (try (have c10b2 : ((t994 == 1 && (t995 == 0)) == true) = false := by simpa using c10))
    (try (have c10b3 : ¬ ((t994 == 1 && (t995 == 0)) = true) := by simpa using c10))
    clear c10
    exact absurd (Option.some.inj H) (by rw [htrue.out]; exact Bool.false_ne_true)
  ·replace c9 := Bool.eq_false_iff.mpr c9
   subst c9
   rw [if_neg (show ¬ (false = true) by decide)] at H
   by_cases c120 : ((t994 == 1 && (t995 == 0)) == t986) = true
   ·rw [if_pos c120] at H
    have c120b0 : ((t994 == 1 && (t995 == 0)) == t986) = true := c120
    (try (have c120b1 : decide ((t994 == 1 && (t995 == 0)) = t986) = true := by simpa using c120))
    (try (have c120b2 : ((t994 == 1 && (t995 == 0)) == t986) = true := by simpa using c120))
    clear c120
    replace H := Option.bind_eq_some_iff.mp H
    obtain ⟨⟨t1051, t1052, t1053⟩, A1210, H⟩ := H
    have A121 := Aside0.mk A1210
    clear A1210
    obtain ⟨y1054, hy1054⟩ : ∃ y_ : List (S25), y_ = (([(⟨t981, t982, false⟩ : S25), (⟨t1051, t1052, t1053⟩ : S25)] : List (S25))) := ⟨_, rfl⟩
    replace H : ((impl_PairsRight.f k y1054 (([(⟨t984, t985, t986⟩ : S25), (⟨t984, t985, t986⟩ : S25)] : List (S25)))).bind fun t1060 => (if t1060 = true then ((impl_PairsRight.f k t997 t998).bind fun t1061 => ((spec_PairsRight.f k t997 t998).bind fun t1062 => (if (t1061 == t1062) = true then ((impl_PairLine.f k t1003 t1004 t1005 t1006 t1007 t1008 t1009 t1010 t1011).bind fun bt1063 => ((spec_PairLine.f k t1003 t1004 t1005 t1006 t1007 t1008 t1009 t1010 t1011).bind fun bt1065 => (if (bt1063.1 == bt1065.1 && (bt1063.2 == bt1065.2)) = true then ((impl_Miller.f k t1015 t1016 t1017 t1018 t1019 t1020).bind fun bt1067 => ((spec_Miller.f k t1015 t1016 t1017 t1018 t1019 t1020).bind fun bt1069 => (if (bt1067.1 == bt1069.1 && (bt1067.2 == bt1069.2)) = true then ((impl_Base.f).bind fun bt1071 => ((impl_Base.f).bind fun bt1074 => ((impl_Pairing.f k bt1071.1 bt1071.2.1 bt1071.2.2 bt1074.1 bt1074.2.1 bt1074.2.2).bind fun bt1077 => (some (bt1077.1 == 372 && (bt1077.2 == 3632)))))) else (some false)))) else (some false)))) else (some false)))) else (some false))) = some r := by first | (rw [hy1054]; with_reducible exact H) | (have H2_ := (Option.bind_some _ _).symm.trans H; rw [hy1054]; with_reducible exact H2_) | (have H2_ := (Option.bind_some _ _).symm.trans H; with_reducible exact H2_) | with_reducible exact H | (rw [hy1054]; exact H) | exact H
    have Ny1054 := Aside0.mk hy1054
    clear hy1054
    obtain ⟨y1057, hy1057⟩ : ∃ y_ : List (S25), y_ = (([(⟨t984, t985, t986⟩ : S25), (⟨t984, t985, t986⟩ : S25)] : List (S25))) := ⟨_, rfl⟩
    replace H : ((impl_PairsRight.f k y1054 y1057).bind fun t1060 => (if t1060 = true then ((impl_PairsRight.f k t997 t998).bind fun t1061 => ((spec_PairsRight.f k t997 t998).bind fun t1062 => (if (t1061 == t1062) = true then ((impl_PairLine.f k t1003 t1004 t1005 t1006 t1007 t1008 t1009 t1010 t1011).bind fun bt1063 => ((spec_PairLine.f k t1003 t1004 t1005 t1006 t1007 t1008 t1009 t1010 t1011).bind fun bt1065 => (if (bt1063.1 == bt1065.1 && (bt1063.2 == bt1065.2)) = true then ((impl_Miller.f k t1015 t1016 t1017 t1018 t1019 t1020).bind fun bt1067 => ((spec_Miller.f k t1015 t1016 t1017 t1018 t1019 t1020).bind fun bt1069 => (if (bt1067.1 == bt1069.1 && (bt1067.2 == bt1069.2)) = true then ((impl_Base.f).bind fun bt1071 => ((impl_Base.f).bind fun bt1074 => ((impl_Pairing.f k bt1071.1 bt1071.2.1 bt1071.2.2 bt1074.1 bt1074.2.1 bt1074.2.2).bind fun bt1077 => (some (bt1077.1 == 372 && (bt1077.2 == 3632)))))) else (some false)))) else (some false)))) else (some false)))) else (some false))) = some r := by first | (rw [hy1057]; with_reducible exact H) | (have H2_ := (Option.bind_some _ _).symm.trans H; rw [hy1057]; with_reducible exact H2_) | (have H2_ := (Option.bind_some _ _).symm.trans H; with_reducible exact H2_) | with_reducible exact H | (rw [hy1057]; exact H) | exact H
    have Ny1057 := Aside0.mk hy1057
    clear hy1057
    replace H := Option.bind_eq_some_iff.mp H
    obtain ⟨t1060, A1220, H⟩ := H
    have A122 := Aside0.mk A1220
    clear A1220
    by_cases c123 : t1060 = true
    ·subst c123
     rw [if_pos rfl] at H
     replace H := Option.bind_eq_some_iff.mp H
     obtain ⟨t1061, A1240, H⟩ := H
     have A124 := Aside0.mk A1240
     clear A1240
     replace H := Option.bind_eq_some_iff.mp H
     obtain ⟨t1062, A1250, H⟩ := H
     have A125 := Aside0.mk A1250
     clear A1250
     by_cases c126 : (t1061 == t1062) = true
     ·rw [if_pos c126] at H
      have c126b0 : (t1061 == t1062) = true := c126
      (try (have c126b1 : decide (t1061 = t1062) = true := by simpa using c126))
      (try (have c126b2 : (t1061 == t1062) = true := by simpa using c126))
      clear c126
      replace H := Option.bind_eq_some_iff.mp H
      obtain ⟨⟨t1063, t1064⟩, A1270, H⟩ := H
      have A127 := Aside0.mk A1270
      clear A1270
      replace H := Option.bind_eq_some_iff.mp H
      obtain ⟨⟨t1065, t1066⟩, A1280, H⟩ := H
      have A128 := Aside0.mk A1280
      clear A1280
      by_cases c129 : (t1063 == t1065 && (t1064 == t1066)) = true
      ·rw [if_pos c129] at H
       have c129b0 : (t1063 == t1065 && (t1064 == t1066)) = true := c129
       (try (have c129b1 : decide (t1063 = t1065 && (t1064 == t1066)) = true := by simpa using c129))
       (try (have c129b2 : (t1063 == t1065 && (t1064 == t1066)) = true := by simpa using c129))
       clear c129
       replace H := Option.bind_eq_some_iff.mp H
       obtain ⟨⟨t1067, t1068⟩, A1300, H⟩ := H
       have A130 := Aside0.mk A1300
       clear A1300
       replace H := Option.bind_eq_some_iff.mp H
       obtain ⟨⟨t1069, t1070⟩, A1310, H⟩ := H
       have A131 := Aside0.mk A1310
       clear A1310
       by_cases c132 : (t1067 == t1069 && (t1068 == t1070)) = true
       ·rw [if_pos c132] at H
        have c132b0 : (t1067 == t1069 && (t1068 == t1070)) = true := c132
        (try (have c132b1 : decide (t1067 = t1069 && (t1068 == t1070)) = true := by simpa using c132))
        (try (have c132b2 : (t1067 == t1069 && (t1068 == t1070)) = true := by simpa using c132))
        clear c132
        replace H := Option.bind_eq_some_iff.mp H
        obtain ⟨⟨t1071, t1072, t1073⟩, A1330, H⟩ := H
        have A133 := Aside0.mk A1330
        clear A1330
        replace H := Option.bind_eq_some_iff.mp H
        obtain ⟨⟨t1074, t1075, t1076⟩, A1340, H⟩ := H
        have A134 := Aside0.mk A1340
        clear A1340
        replace H := Option.bind_eq_some_iff.mp H
        obtain ⟨⟨t1077, t1078⟩, A1350, H⟩ := H
        have A135 := Aside0.mk A1350
        clear A1350
        obtain rfl := Option.some.inj H
        go_enter Try.func13, Try.ntmps13
        try go_wp2_with (first | ((with_reducible refine gate_callee (f := 14) rfl ?_); refine gL (some 16) Try.func14 #[.slice A0 l0.length c0] ?_; (with_reducible refine (laws_big.calls _ _ l0 false _ ?side1 ?side2 A2.out).mono ?_); (case side1 => exact cP HR0.out); (case side2 => exact HC0.out); rintro e w' ⟨rfl, ⟨nd, rfl⟩⟩; refine ⟨_, rfl, ?_⟩) | ((with_reducible refine gate_callee (f := 15) rfl ?_); refine gL (some 19) Try.func15 #[.slice A0 l0.length c0] ?_; (with_reducible refine (spec_DrawGroup.calls k _ _ l0 t981 t982 false t984 t985 t986 t987 t988 t989 _ ?side1 ?side2 A4.out).mono ?_); (case side1 => exact cP HR0.out); (case side2 => exact HC0.out); rintro e w136 ⟨rfl, hb⟩; refine ⟨_, rfl, ?_⟩; replace HB := bS HB hb; (try clear hb)) | ((with_reducible refine gate_dst (N := 3) rfl ?_); (try (refine gate_guard (by rfl) ?_; dsimp only)); refine box_event ?hg (N := 3) ?hd (cs := #[.int .i64 0, .int .i64 0, .bool false]) (t := 25) ?hr ?_; (case hd => rfl); (case hg => rfl); (case hr => first | (go_simp; done) | (go_simp; rfl)); intro gb990 hg w137 hbox hb; have BK990 := Aside0.mk (hbox); have GW990 := bG HB hg; have GE990 := bG HB hg; replace HB := bS HB hb; clear hb hbox hg) | ((with_reducible refine gate_dst (N := 4) rfl ?_); (try (refine gate_guard (by rfl) ?_; dsimp only)); refine box_event ?hg (N := 4) ?hd (cs := #[.int .i64 0, .int .i64 0, .bool false]) (t := 25) ?hr ?_; (case hd => rfl); (case hg => rfl); (case hr => first | (go_simp; done) | (go_simp; rfl)); intro gb991 hg w138 hbox hb; have BK991 := Aside0.mk (hbox); have GW991 := bG HB hg; have GE991 := bG HB hg; replace HB := bS HB hb; have NB990_991 := bL BK990 hg; have NB991_990 := bR BK990 hg; replace BK990 := bB BK990 hb; clear hb hbox hg) | ((with_reducible refine gate_dst (N := 5) rfl ?_); (try (refine gate_guard (by rfl) ?_; dsimp only)); refine box_event ?hg (N := 5) ?hd (cs := #[.int .i64 0, .int .i64 0, .bool false]) (t := 25) ?hr ?_; (case hd => rfl); (case hg => rfl); (case hr => first | (go_simp; done) | (go_simp; rfl)); intro gb992 hg w139 hbox hb; have BK992 := Aside0.mk (hbox); have GW992 := bG HB hg; have GE992 := bG HB hg; replace HB := bS HB hb; have NB990_992 := bL BK990 hg; have NB992_990 := bR BK990 hg; replace BK990 := bB BK990 hb; have NB991_992 := bL BK991 hg; have NB992_991 := bR BK991 hg; replace BK991 := bB BK991 hb; clear hb hbox hg; obtain ⟨hnb140, hnc140⟩ := nB NB990_991; obtain ⟨hnb141, hnc141⟩ := nB NB990_992; obtain ⟨hcz142_0, hcz142_1, hcz142_2, hfz142_0, hfz142_1, hfz142_2⟩ := bK3 (w := w139) BK990; obtain ⟨hnb143, hnc143⟩ := nB NB991_992; obtain ⟨hcz144_0, hcz144_1, hcz144_2, hfz144_0, hfz144_1, hfz144_2⟩ := bK3 (w := w139) BK991; obtain ⟨hcz145_0, hcz145_1, hcz145_2, hfz145_0, hfz145_1, hfz145_2⟩ := bK3 (w := w139) BK992) | ((with_reducible refine gate_dst (N := 6) rfl ?_); (try (refine gate_guard (by rfl) ?_; dsimp only)); refine box_event ?hg (N := 6) ?hd (cs := #[.int .i64 0, .int .i64 0]) (t := 31) ?hr ?_; (case hd => rfl); (case hg => rfl); (case hr => first | (go_simp; done) | (go_simp; rfl)); intro gb993 hg w146 hbox hb; have BK993 := Aside0.mk (hbox); have GW993 := bG HB hg; have GE993 := bG HB hg; replace HB := bS HB hb; have NB990_993 := Aside0.mk ((by rw [hg]; exact Nat.ne_of_lt (blk_lt (g := gb990) (o := .cells #[.int .i64 t981, .int .i64 t982, .bool false] 25 (0, 0)) (bU BK990)) : gb990 ≠ gb993)); have NB993_990 := Aside0.mk ((by rw [hg]; exact Nat.ne_of_gt (blk_lt (g := gb990) (o := .cells #[.int .i64 t981, .int .i64 t982, .bool false] 25 (0, 0)) (bU BK990)) : gb993 ≠ gb990)); replace BK990 := bV 25 #[.int .i64 t981, .int .i64 t982, .bool false] BK990 hb; have NB991_993 := Aside0.mk ((by rw [hg]; exact Nat.ne_of_lt (blk_lt (g := gb991) (o := .cells #[.int .i64 t984, .int .i64 t985, .bool t986] 25 (0, 0)) (bU BK991)) : gb991 ≠ gb993)); have NB993_991 := Aside0.mk ((by rw [hg]; exact Nat.ne_of_gt (blk_lt (g := gb991) (o := .cells #[.int .i64 t984, .int .i64 t985, .bool t986] 25 (0, 0)) (bU BK991)) : gb993 ≠ gb991)); replace BK991 := bV 25 #[.int .i64 t984, .int .i64 t985, .bool t986] BK991 hb; have NB992_993 := Aside0.mk ((by rw [hg]; exact Nat.ne_of_lt (blk_lt (g := gb992) (o := .cells #[.int .i64 t987, .int .i64 t988, .bool t989] 25 (0, 0)) (bU BK992)) : gb992 ≠ gb993)); have NB993_992 := Aside0.mk ((by rw [hg]; exact Nat.ne_of_gt (blk_lt (g := gb992) (o := .cells #[.int .i64 t987, .int .i64 t988, .bool t989] 25 (0, 0)) (bU BK992)) : gb993 ≠ gb992)); replace BK992 := bV 25 #[.int .i64 t987, .int .i64 t988, .bool t989] BK992 hb; clear hb hbox hg; obtain ⟨hnb147, hnc147⟩ := nB NB993_990; obtain ⟨hnb148, hnc148⟩ := nB NB993_991; obtain ⟨hnb149, hnc149⟩ := nB NB993_992; obtain ⟨hcz150_0, hcz150_1, hfz150_0, hfz150_1⟩ := bK2 (w := w146) BK993; obtain ⟨hcz151_0, hcz151_1, hcz151_2, hfz151_0, hfz151_1, hfz151_2⟩ := bK3 (w := w146) BK990; obtain ⟨hcz152_0, hcz152_1, hcz152_2, hfz152_0, hfz152_1, hfz152_2⟩ := bK3 (w := w146) BK991) | ((with_reducible refine gate_callee (f := 17) rfl ?_); refine gL (some 26) Try.func17 #[.agg #[.int .i64 t981, .int .i64 t982, .bool false], .agg #[.int .i64 t984, .int .i64 t985, .bool t986]] ?_; (with_reducible refine (impl_Pairing.calls k t981 t982 false t984 t985 t986 t994 t995 _ A5.out).mono ?_); rintro e w153 ⟨rfl, hb⟩; refine ⟨_, rfl, ?_⟩; replace BK990 := bB BK990 hb; replace BK991 := bB BK991 hb; replace BK992 := bB BK992 hb; replace BK993 := bV 31 #[.int .i64 1, .int .i64 0] BK993 hb; replace HB := bS HB hb; (try clear hb)) | ((with_reducible refine gate_dst (N := 7) rfl ?_); (try (refine gate_guard (by rfl) ?_; dsimp only)); refine box_event ?hg (N := 7) ?hd (cs := #[.int .i64 0, .int .i64 0]) (t := 31) ?hr ?_; (case hd => rfl); (case hg => rfl); (case hr => first | (go_simp; done) | (go_simp; rfl)); intro gb996 hg w154 hbox hb; have BK996 := Aside0.mk (hbox); have GW996 := bG HB hg; have GE996 := bG HB hg; replace HB := bS HB hb; have NB990_996 := bL BK990 hg; have NB996_990 := bR BK990 hg; replace BK990 := bB BK990 hb; have NB991_996 := bL BK991 hg; have NB996_991 := bR BK991 hg; replace BK991 := bB BK991 hb; have NB992_996 := bL BK992 hg; have NB996_992 := bR BK992 hg; replace BK992 := bB BK992 hb; have NB993_996 := bL BK993 hg; have NB996_993 := bR BK993 hg; replace BK993 := bB BK993 hb; clear hb hbox hg; obtain ⟨hnb155, hnc155⟩ := nB NB996_990; obtain ⟨hnb156, hnc156⟩ := nB NB996_991; obtain ⟨hnb157, hnc157⟩ := nB NB996_992; obtain ⟨hnb158, hnc158⟩ := nB NB996_993; obtain ⟨hcz159_0, hcz159_1, hfz159_0, hfz159_1⟩ := bK2 (w := w154) BK996) | ((with_reducible refine gate_callee (f := 56) rfl ?_); refine gL (some 29) Try.func56 #[.slice A0 l0.length c0] ?_; (with_reducible refine (spec_DrawPairsRight.calls k _ _ l0 t997 t998 _ ?side1 ?side2 A6.out).mono ?_); (case side1 => exact Kd.C_below HR0.out (bZ HB)); (case side2 => exact HC0.out); rintro e w160 ⟨v999, v1001, rfl, ho0, ho1, hb⟩; refine ⟨_, rfl, ?_⟩; have HO1000 := Aside0.mk (Kd.R_lower (Kd.R_newB (Kd.R_newB (Kd.R_newB ho0 (bP BK990)) (bP BK991)) (bP BK992)) (below_size (bZ HB))); have HO1002 := Aside0.mk (Kd.R_lower (Kd.R_newB (Kd.R_newB (Kd.R_newB ho1 (bP BK990)) (bP BK991)) (bP BK992)) (below_size (bZ HB))); replace BK990 := bB BK990 hb; replace BK991 := bB BK991 hb; replace BK992 := bB BK992 hb; replace BK993 := bB BK993 hb; replace BK996 := bV 31 #[.int .i64 t994, .int .i64 t995] BK996 hb; replace HB := bS HB hb; (try clear hb); (try clear ho0); (try clear ho1)) | ((with_reducible refine gate_callee (f := 57) rfl ?_); refine gL (some 34) Try.func57 #[.slice A0 l0.length c0] ?_; (with_reducible refine (spec_DrawPairLine.calls k _ _ l0 t1003 t1004 t1005 t1006 t1007 t1008 t1009 t1010 t1011 _ ?side1 ?side2 A7.out).mono ?_); (case side1 => exact cP (Kd.C_below HR0.out HB.out)); (case side2 => exact HC0.out); rintro e w161 ⟨rfl, hb⟩; refine ⟨_, rfl, ?_⟩; replace HO1000 := Aside0.mk (Kd.R_below (rP HO1000) hb); replace HO1002 := Aside0.mk (Kd.R_below (rP HO1002) hb); replace BK990 := bB BK990 hb; replace BK991 := bB BK991 hb; replace BK992 := bB BK992 hb; replace BK993 := bB BK993 hb; replace BK996 := bB BK996 hb; replace HB := bS HB hb; (try clear hb)) | ((with_reducible refine gate_dst (N := 10) rfl ?_); (try (refine gate_guard (by rfl) ?_; dsimp only)); refine box_event ?hg (N := 10) ?hd (cs := #[.int .i64 0, .int .i64 0, .bool false]) (t := 25) ?hr ?_; (case hd => rfl); (case hg => rfl); (case hr => first | (go_simp; done) | (go_simp; rfl)); intro gb1012 hg w162 hbox hb; replace HO1000 := Aside0.mk (Kd.R_below (Kd.R_elderB (rP HO1000) gb1012 (Nat.le_of_eq hg.symm)) hb); replace HO1002 := Aside0.mk (Kd.R_below (Kd.R_elderB (rP HO1002) gb1012 (Nat.le_of_eq hg.symm)) hb); have BK1012 := Aside0.mk (hbox); have GW1012 := bG HB hg; have GE1012 := bG HB hg; replace HB := bS HB hb; have NB990_1012 := bL BK990 hg; have NB1012_990 := bR BK990 hg; replace BK990 := bB BK990 hb; have NB991_1012 := bL BK991 hg; have NB1012_991 := bR BK991 hg; replace BK991 := bB BK991 hb; have NB992_1012 := bL BK992 hg; have NB1012_992 := bR BK992 hg; replace BK992 := bB BK992 hb; have NB993_1012 := bL BK993 hg; have NB1012_993 := bR BK993 hg; replace BK993 := bB BK993 hb; have NB996_1012 := bL BK996 hg; have NB1012_996 := bR BK996 hg; replace BK996 := bB BK996 hb; clear hb hbox hg) | ((with_reducible refine gate_dst (N := 11) rfl ?_); (try (refine gate_guard (by rfl) ?_; dsimp only)); refine box_event ?hg (N := 11) ?hd (cs := #[.int .i64 0, .int .i64 0, .bool false]) (t := 25) ?hr ?_; (case hd => rfl); (case hg => rfl); (case hr => first | (go_simp; done) | (go_simp; rfl)); intro gb1013 hg w163 hbox hb; replace HO1000 := Aside0.mk (Kd.R_below (Kd.R_elderB (rP HO1000) gb1013 (Nat.le_of_eq hg.symm)) hb); replace HO1002 := Aside0.mk (Kd.R_below (Kd.R_elderB (rP HO1002) gb1013 (Nat.le_of_eq hg.symm)) hb); have BK1013 := Aside0.mk (hbox); have GW1013 := bG HB hg; have GE1013 := bG HB hg; replace HB := bS HB hb; have NB990_1013 := bL BK990 hg; have NB1013_990 := bR BK990 hg; replace BK990 := bB BK990 hb; have NB991_1013 := bL BK991 hg; have NB1013_991 := bR BK991 hg; replace BK991 := bB BK991 hb; have NB992_1013 := bL BK992 hg; have NB1013_992 := bR BK992 hg; replace BK992 := bB BK992 hb; have NB993_1013 := bL BK993 hg; have NB1013_993 := bR BK993 hg; replace BK993 := bB BK993 hb; have NB996_1013 := bL BK996 hg; have NB1013_996 := bR BK996 hg; replace BK996 := bB BK996 hb; have NB1012_1013 := bL BK1012 hg; have NB1013_1012 := bR BK1012 hg; replace BK1012 := bB BK1012 hb; clear hb hbox hg) | ((with_reducible refine gate_dst (N := 12) rfl ?_); (try (refine gate_guard (by rfl) ?_; dsimp only)); refine box_event ?hg (N := 12) ?hd (cs := #[.int .i64 0, .int .i64 0, .bool false]) (t := 25) ?hr ?_; (case hd => rfl); (case hg => rfl); (case hr => first | (go_simp; done) | (go_simp; rfl)); intro gb1014 hg w164 hbox hb; replace HO1000 := Aside0.mk (Kd.R_below (Kd.R_elderB (rP HO1000) gb1014 (Nat.le_of_eq hg.symm)) hb); replace HO1002 := Aside0.mk (Kd.R_below (Kd.R_elderB (rP HO1002) gb1014 (Nat.le_of_eq hg.symm)) hb); have BK1014 := Aside0.mk (hbox); have GW1014 := bG HB hg; have GE1014 := bG HB hg; replace HB := bS HB hb; have NB990_1014 := bL BK990 hg; have NB1014_990 := bR BK990 hg; replace BK990 := bB BK990 hb; have NB991_1014 := bL BK991 hg; have NB1014_991 := bR BK991 hg; replace BK991 := bB BK991 hb; have NB992_1014 := bL BK992 hg; have NB1014_992 := bR BK992 hg; replace BK992 := bB BK992 hb; have NB993_1014 := bL BK993 hg; have NB1014_993 := bR BK993 hg; replace BK993 := bB BK993 hb; have NB996_1014 := bL BK996 hg; have NB1014_996 := bR BK996 hg; replace BK996 := bB BK996 hb; have NB1012_1014 := bL BK1012 hg; have NB1014_1012 := bR BK1012 hg; replace BK1012 := bB BK1012 hb; have NB1013_1014 := bL BK1013 hg; have NB1014_1013 := bR BK1013 hg; replace BK1013 := bB BK1013 hb; clear hb hbox hg; obtain ⟨hnb165, hnc165⟩ := nB NB1012_990; obtain ⟨hnb166, hnc166⟩ := nB NB1012_991; obtain ⟨hnb167, hnc167⟩ := nB NB1012_992; obtain ⟨hnb168, hnc168⟩ := nB NB1012_993; obtain ⟨hnb169, hnc169⟩ := nB NB1012_996; obtain ⟨hnb170, hnc170⟩ := nB NB1012_1013; obtain ⟨hnb171, hnc171⟩ := nB NB1012_1014; obtain ⟨hcz172_0, hcz172_1, hcz172_2, hfz172_0, hfz172_1, hfz172_2⟩ := bK3 (w := w164) BK1012; obtain ⟨hnb173, hnc173⟩ := nB NB1013_990; obtain ⟨hnb174, hnc174⟩ := nB NB1013_991; obtain ⟨hnb175, hnc175⟩ := nB NB1013_992; obtain ⟨hnb176, hnc176⟩ := nB NB1013_993; obtain ⟨hnb177, hnc177⟩ := nB NB1013_996; obtain ⟨hnb178, hnc178⟩ := nB NB1013_1014; obtain ⟨hcz179_0, hcz179_1, hcz179_2, hfz179_0, hfz179_1, hfz179_2⟩ := bK3 (w := w164) BK1013; obtain ⟨hnb180, hnc180⟩ := nB NB1014_990; obtain ⟨hnb181, hnc181⟩ := nB NB1014_991; obtain ⟨hnb182, hnc182⟩ := nB NB1014_992; obtain ⟨hnb183, hnc183⟩ := nB NB1014_993; obtain ⟨hnb184, hnc184⟩ := nB NB1014_996; obtain ⟨hcz185_0, hcz185_1, hcz185_2, hfz185_0, hfz185_1, hfz185_2⟩ := bK3 (w := w164) BK1014) | ((with_reducible refine gate_callee (f := 58) rfl ?_); refine gL (some 40) Try.func58 #[.slice A0 l0.length c0] ?_; (with_reducible refine (spec_DrawMiller.calls k _ _ l0 t1015 t1016 t1017 t1018 t1019 t1020 _ ?side1 ?side2 A8.out).mono ?_); (case side1 => exact Kd.C_below HR0.out (bZ HB)); (case side2 => exact HC0.out); rintro e w186 ⟨rfl, hb⟩; refine ⟨_, rfl, ?_⟩; replace HO1000 := Aside0.mk (Kd.R_below (by (with_reducible repeat (first | apply Kd.R_alloc | apply Kd.R_drewN | apply Kd.R_drew)); exact (Kd.R_mono (Kd.R_mono (Kd.R_mono (Kd.R_far (p := ⟨gb1014, 2, none⟩) (Kd.R_far (p := ⟨gb1014, 1, none⟩) (Kd.R_far (p := ⟨gb1014, 0, none⟩) (Kd.R_far (p := ⟨gb1013, 2, none⟩) (Kd.R_far (p := ⟨gb1013, 1, none⟩) (Kd.R_far (p := ⟨gb1013, 0, none⟩) (Kd.R_far (p := ⟨gb1012, 2, none⟩) (Kd.R_far (p := ⟨gb1012, 1, none⟩) (Kd.R_far (p := ⟨gb1012, 0, none⟩) (Kd.R_mono (Kd.R_mono (Kd.R_mono HO1000.out (fun k_ hk => (⟨hk, hk.1.1.2⟩ : _ ∧ k_ ≠ gb1012))) (fun k_ hk => (⟨hk, hk.1.1.2⟩ : _ ∧ k_ ≠ gb1013))) (fun k_ hk => (⟨hk, hk.1.1.2⟩ : _ ∧ k_ ≠ gb1014))) (fun _ hk => hk.1.1.2) (.int .i64 t1003)) (fun _ hk => hk.1.1.2) (.int .i64 t1004)) (fun _ hk => hk.1.1.2) (.bool t1005)) (fun _ hk => hk.1.2) (.int .i64 t1006)) (fun _ hk => hk.1.2) (.int .i64 t1007)) (fun _ hk => hk.1.2) (.bool t1008)) (fun _ hk => hk.2) (.int .i64 t1009)) (fun _ hk => hk.2) (.int .i64 t1010)) (fun _ hk => hk.2) (.bool t1011)) (fun _ h_ => h_.1)) (fun _ h_ => h_.1)) (fun _ h_ => h_.1))) hb); replace HO1002 := Aside0.mk (Kd.R_below (by (with_reducible repeat (first | apply Kd.R_alloc | apply Kd.R_drewN | apply Kd.R_drew)); exact (Kd.R_mono (Kd.R_mono (Kd.R_mono (Kd.R_far (p := ⟨gb1014, 2, none⟩) (Kd.R_far (p := ⟨gb1014, 1, none⟩) (Kd.R_far (p := ⟨gb1014, 0, none⟩) (Kd.R_far (p := ⟨gb1013, 2, none⟩) (Kd.R_far (p := ⟨gb1013, 1, none⟩) (Kd.R_far (p := ⟨gb1013, 0, none⟩) (Kd.R_far (p := ⟨gb1012, 2, none⟩) (Kd.R_far (p := ⟨gb1012, 1, none⟩) (Kd.R_far (p := ⟨gb1012, 0, none⟩) (Kd.R_mono (Kd.R_mono (Kd.R_mono HO1002.out (fun k_ hk => (⟨hk, hk.1.1.2⟩ : _ ∧ k_ ≠ gb1012))) (fun k_ hk => (⟨hk, hk.1.1.2⟩ : _ ∧ k_ ≠ gb1013))) (fun k_ hk => (⟨hk, hk.1.1.2⟩ : _ ∧ k_ ≠ gb1014))) (fun _ hk => hk.1.1.2) (.int .i64 t1003)) (fun _ hk => hk.1.1.2) (.int .i64 t1004)) (fun _ hk => hk.1.1.2) (.bool t1005)) (fun _ hk => hk.1.2) (.int .i64 t1006)) (fun _ hk => hk.1.2) (.int .i64 t1007)) (fun _ hk => hk.1.2) (.bool t1008)) (fun _ hk => hk.2) (.int .i64 t1009)) (fun _ hk => hk.2) (.int .i64 t1010)) (fun _ hk => hk.2) (.bool t1011)) (fun _ h_ => h_.1)) (fun _ h_ => h_.1)) (fun _ h_ => h_.1))) hb); replace BK990 := bB BK990 hb; replace BK991 := bB BK991 hb; replace BK992 := bB BK992 hb; replace BK993 := bB BK993 hb; replace BK996 := bB BK996 hb; replace BK1012 := bV 25 #[.int .i64 t1003, .int .i64 t1004, .bool t1005] BK1012 hb; replace BK1013 := bV 25 #[.int .i64 t1006, .int .i64 t1007, .bool t1008] BK1013 hb; replace BK1014 := bV 25 #[.int .i64 t1009, .int .i64 t1010, .bool t1011] BK1014 hb; replace HB := bS HB hb; (try clear hb)) | ((with_reducible refine gate_dst (N := 13) rfl ?_); (try (refine gate_guard (by rfl) ?_; dsimp only)); refine box_event ?hg (N := 13) ?hd (cs := #[.int .i64 0, .int .i64 0, .bool false]) (t := 25) ?hr ?_; (case hd => rfl); (case hg => rfl); (case hr => first | (go_simp; done) | (go_simp; rfl)); intro gb1021 hg w187 hbox hb; replace HO1000 := Aside0.mk (Kd.R_below (Kd.R_elderB (rP HO1000) gb1021 (Nat.le_of_eq hg.symm)) hb); replace HO1002 := Aside0.mk (Kd.R_below (Kd.R_elderB (rP HO1002) gb1021 (Nat.le_of_eq hg.symm)) hb); have BK1021 := Aside0.mk (hbox); have GW1021 := bG HB hg; have GE1021 := bG HB hg; replace HB := bS HB hb; have NB990_1021 := bL BK990 hg; have NB1021_990 := bR BK990 hg; replace BK990 := bB BK990 hb; have NB991_1021 := bL BK991 hg; have NB1021_991 := bR BK991 hg; replace BK991 := bB BK991 hb; have NB992_1021 := bL BK992 hg; have NB1021_992 := bR BK992 hg; replace BK992 := bB BK992 hb; have NB993_1021 := bL BK993 hg; have NB1021_993 := bR BK993 hg; replace BK993 := bB BK993 hb; have NB996_1021 := bL BK996 hg; have NB1021_996 := bR BK996 hg; replace BK996 := bB BK996 hb; have NB1012_1021 := bL BK1012 hg; have NB1021_1012 := bR BK1012 hg; replace BK1012 := bB BK1012 hb; have NB1013_1021 := bL BK1013 hg; have NB1021_1013 := bR BK1013 hg; replace BK1013 := bB BK1013 hb; have NB1014_1021 := bL BK1014 hg; have NB1021_1014 := bR BK1014 hg; replace BK1014 := bB BK1014 hb; clear hb hbox hg) | ((with_reducible refine gate_dst (N := 14) rfl ?_); (try (refine gate_guard (by rfl) ?_; dsimp only)); refine box_event ?hg (N := 14) ?hd (cs := #[.int .i64 0, .int .i64 0, .bool false]) (t := 25) ?hr ?_; (case hd => rfl); (case hg => rfl); (case hr => first | (go_simp; done) | (go_simp; rfl)); intro gb1022 hg w188 hbox hb; replace HO1000 := Aside0.mk (Kd.R_below (Kd.R_elderB (rP HO1000) gb1022 (Nat.le_of_eq hg.symm)) hb); replace HO1002 := Aside0.mk (Kd.R_below (Kd.R_elderB (rP HO1002) gb1022 (Nat.le_of_eq hg.symm)) hb); have BK1022 := Aside0.mk (hbox); have GW1022 := bG HB hg; have GE1022 := bG HB hg; replace HB := bS HB hb; have NB990_1022 := bL BK990 hg; have NB1022_990 := bR BK990 hg; replace BK990 := bB BK990 hb; have NB991_1022 := bL BK991 hg; have NB1022_991 := bR BK991 hg; replace BK991 := bB BK991 hb; have NB992_1022 := bL BK992 hg; have NB1022_992 := bR BK992 hg; replace BK992 := bB BK992 hb; have NB993_1022 := bL BK993 hg; have NB1022_993 := bR BK993 hg; replace BK993 := bB BK993 hb; have NB996_1022 := bL BK996 hg; have NB1022_996 := bR BK996 hg; replace BK996 := bB BK996 hb; have NB1012_1022 := bL BK1012 hg; have NB1022_1012 := bR BK1012 hg; replace BK1012 := bB BK1012 hb; have NB1013_1022 := bL BK1013 hg; have NB1022_1013 := bR BK1013 hg; replace BK1013 := bB BK1013 hb; have NB1014_1022 := bL BK1014 hg; have NB1022_1014 := bR BK1014 hg; replace BK1014 := bB BK1014 hb; have NB1021_1022 := bL BK1021 hg; have NB1022_1021 := bR BK1021 hg; replace BK1021 := bB BK1021 hb; clear hb hbox hg; obtain ⟨hnb189, hnc189⟩ := nB NB1021_990; obtain ⟨hnb190, hnc190⟩ := nB NB1021_991; obtain ⟨hnb191, hnc191⟩ := nB NB1021_992; obtain ⟨hnb192, hnc192⟩ := nB NB1021_993; obtain ⟨hnb193, hnc193⟩ := nB NB1021_996; obtain ⟨hnb194, hnc194⟩ := nB NB1021_1012; obtain ⟨hnb195, hnc195⟩ := nB NB1021_1013; obtain ⟨hnb196, hnc196⟩ := nB NB1021_1014; obtain ⟨hnb197, hnc197⟩ := nB NB1021_1022; obtain ⟨hcz198_0, hcz198_1, hcz198_2, hfz198_0, hfz198_1, hfz198_2⟩ := bK3 (w := w188) BK1021; obtain ⟨hnb199, hnc199⟩ := nB NB1022_990; obtain ⟨hnb200, hnc200⟩ := nB NB1022_991; obtain ⟨hnb201, hnc201⟩ := nB NB1022_992; obtain ⟨hnb202, hnc202⟩ := nB NB1022_993; obtain ⟨hnb203, hnc203⟩ := nB NB1022_996; obtain ⟨hnb204, hnc204⟩ := nB NB1022_1012; obtain ⟨hnb205, hnc205⟩ := nB NB1022_1013; obtain ⟨hnb206, hnc206⟩ := nB NB1022_1014; obtain ⟨hcz207_0, hcz207_1, hcz207_2, hfz207_0, hfz207_1, hfz207_2⟩ := bK3 (w := w188) BK1022; obtain ⟨Ao208, co208, eo208⟩ := Kd.R_slice HO1000.out; subst eo208; obtain ⟨Ao209, co209, eo209⟩ := Kd.R_slice HO1002.out; subst eo209))
        obtain ⟨w210, hW_⟩ : ∃ W_ : World, W_ = ((((((w188.setCell ⟨gb1021, 0, none⟩ (.int .i64 t1015)).setCell ⟨gb1021, 1, none⟩ (.int .i64 t1016)).setCell ⟨gb1021, 2, none⟩ (.bool t1017)).setCell ⟨gb1022, 0, none⟩ (.int .i64 t1018)).setCell ⟨gb1022, 1, none⟩ (.int .i64 t1019)).setCell ⟨gb1022, 2, none⟩ (.bool t1020)) := ⟨_, rfl⟩
        have n0_ : Aside0 (Kd.R k25 25 ((((((w188.setCell ⟨gb1021, 0, none⟩ (.int .i64 t1015)).setCell ⟨gb1021, 1, none⟩ (.int .i64 t1016)).setCell ⟨gb1021, 2, none⟩ (.bool t1017)).setCell ⟨gb1022, 0, none⟩ (.int .i64 t1018)).setCell ⟨gb1022, 1, none⟩ (.int .i64 t1019)).setCell ⟨gb1022, 2, none⟩ (.bool t1020)) w.heap.size (fun k_ => some k_ ≠ (.slice Ao209 t998.length co209 : Value).ownBlock ∧ k_ ≠ gb990 ∧ k_ ≠ gb991 ∧ k_ ≠ gb992 ∧ k_ ≠ gb1012 ∧ k_ ≠ gb1013 ∧ k_ ≠ gb1014 ∧ k_ ≠ gb1021 ∧ k_ ≠ gb1022) (.slice Ao208 t997.length co208) t997) := ⟨by (with_reducible repeat (first | apply Kd.R_alloc | apply Kd.R_drewN | apply Kd.R_drew)); exact Kd.R_mono (Kd.R_far (p := ⟨gb1022, 2, none⟩) (Kd.R_far (p := ⟨gb1022, 1, none⟩) (Kd.R_far (p := ⟨gb1022, 0, none⟩) (Kd.R_far (p := ⟨gb1021, 2, none⟩) (Kd.R_far (p := ⟨gb1021, 1, none⟩) (Kd.R_far (p := ⟨gb1021, 0, none⟩) (Kd.R_mono (Kd.R_mono HO1000.out (fun k_ hk => (⟨hk, hk.1.2⟩ : _ ∧ k_ ≠ gb1021))) (fun k_ hk => (⟨hk, hk.1.2⟩ : _ ∧ k_ ≠ gb1022))) (fun _ hk => hk.1.2) (.int .i64 t1015)) (fun _ hk => hk.1.2) (.int .i64 t1016)) (fun _ hk => hk.1.2) (.bool t1017)) (fun _ hk => hk.2) (.int .i64 t1018)) (fun _ hk => hk.2) (.int .i64 t1019)) (fun _ hk => hk.2) (.bool t1020)) (fun _ hk => ⟨hk.1.1.1.1.1.1.1.1.1.1, ⟨hk.1.1.1.1.1.1.1.1.1.2, ⟨hk.1.1.1.1.1.1.1.1.2, ⟨hk.1.1.1.1.1.1.1.2, ⟨hk.1.1.1.1.1.1.2, ⟨hk.1.1.1.1.1.2, ⟨hk.1.1.1.1.2, ⟨hk.1.1.1.2, hk.1.1.2⟩⟩⟩⟩⟩⟩⟩⟩)⟩
        rw [← hW_] at n0_
        have n1_ : Aside0 (Kd.R k25 25 ((((((w188.setCell ⟨gb1021, 0, none⟩ (.int .i64 t1015)).setCell ⟨gb1021, 1, none⟩ (.int .i64 t1016)).setCell ⟨gb1021, 2, none⟩ (.bool t1017)).setCell ⟨gb1022, 0, none⟩ (.int .i64 t1018)).setCell ⟨gb1022, 1, none⟩ (.int .i64 t1019)).setCell ⟨gb1022, 2, none⟩ (.bool t1020)) w.heap.size (fun k_ => some k_ ≠ (.slice Ao208 t997.length co208 : Value).ownBlock ∧ k_ ≠ gb990 ∧ k_ ≠ gb991 ∧ k_ ≠ gb992 ∧ k_ ≠ gb1012 ∧ k_ ≠ gb1013 ∧ k_ ≠ gb1014 ∧ k_ ≠ gb1021 ∧ k_ ≠ gb1022) (.slice Ao209 t998.length co209) t998) := ⟨by (with_reducible repeat (first | apply Kd.R_alloc | apply Kd.R_drewN | apply Kd.R_drew)); exact Kd.R_mono (Kd.R_far (p := ⟨gb1022, 2, none⟩) (Kd.R_far (p := ⟨gb1022, 1, none⟩) (Kd.R_far (p := ⟨gb1022, 0, none⟩) (Kd.R_far (p := ⟨gb1021, 2, none⟩) (Kd.R_far (p := ⟨gb1021, 1, none⟩) (Kd.R_far (p := ⟨gb1021, 0, none⟩) (Kd.R_mono (Kd.R_mono HO1002.out (fun k_ hk => (⟨hk, hk.1.2⟩ : _ ∧ k_ ≠ gb1021))) (fun k_ hk => (⟨hk, hk.1.2⟩ : _ ∧ k_ ≠ gb1022))) (fun _ hk => hk.1.2) (.int .i64 t1015)) (fun _ hk => hk.1.2) (.int .i64 t1016)) (fun _ hk => hk.1.2) (.bool t1017)) (fun _ hk => hk.2) (.int .i64 t1018)) (fun _ hk => hk.2) (.int .i64 t1019)) (fun _ hk => hk.2) (.bool t1020)) (fun _ hk => ⟨hk.1.1.1.1.1.1.1.1.1.1, ⟨hk.1.1.1.1.1.1.1.1.1.2, ⟨hk.1.1.1.1.1.1.1.1.2, ⟨hk.1.1.1.1.1.1.1.2, ⟨hk.1.1.1.1.1.1.2, ⟨hk.1.1.1.1.1.2, ⟨hk.1.1.1.1.2, ⟨hk.1.1.1.2, hk.1.1.2⟩⟩⟩⟩⟩⟩⟩⟩)⟩
        rw [← hW_] at n1_
        replace BK990 := bW hW_ BK990
        replace BK991 := bW hW_ BK991
        replace BK992 := bW hW_ BK992
        replace BK993 := bW hW_ BK993
        replace BK996 := bW hW_ BK996
        replace BK1012 := bW hW_ BK1012
        replace BK1013 := bW hW_ BK1013
        replace BK1014 := bW hW_ BK1014
        replace BK1021 := bX hW_ 25 #[.int .i64 t1015, .int .i64 t1016, .bool t1017] BK1021
        replace BK1022 := bX hW_ 25 #[.int .i64 t1018, .int .i64 t1019, .bool t1020] BK1022
        (try clear HO1000)
        (try clear HO1002)
        have HO1000 := n0_
        clear n0_
        have HO1002 := n1_
        clear n1_
        replace HB := zW hW_ HB
        rw [← hW_]
        clear hW_
        replace HO1000 := Aside0.mk (Kd.R_drew HO1000.out)
        replace HO1002 := Aside0.mk (Kd.R_drew HO1002.out)
        replace BK990 := Aside0.mk (blk_drew BK990.out)
        replace BK991 := Aside0.mk (blk_drew BK991.out)
        replace BK992 := Aside0.mk (blk_drew BK992.out)
        replace BK993 := Aside0.mk (blk_drew BK993.out)
        replace BK996 := Aside0.mk (blk_drew BK996.out)
        replace BK1012 := Aside0.mk (blk_drew BK1012.out)
        replace BK1013 := Aside0.mk (blk_drew BK1013.out)
        replace BK1014 := Aside0.mk (blk_drew BK1014.out)
        replace BK1021 := Aside0.mk (blk_drew BK1021.out)
        replace BK1022 := Aside0.mk (blk_drew BK1022.out)
        replace HB := Aside0.mk (below_drew1 HB.out)
        refine start_ (n := 57) (S := fun w' => SP2 w' gb996 (.int .i64 t994) (.int .i64 t995) (SP2 w' gb993 (.int .i64 1) (.int .i64 0) (SP3 w' gb990 (.int .i64 t981) (.int .i64 t982) (.bool false) (SP3 w' gb991 (.int .i64 t984) (.int .i64 t985) (.bool t986) (SP3 w' gb1012 (.int .i64 t1003) (.int .i64 t1004) (.bool t1005) (SP3 w' gb1013 (.int .i64 t1006) (.int .i64 t1007) (.bool t1008) (SP3 w' gb1014 (.int .i64 t1009) (.int .i64 t1010) (.bool t1011) (SP3 w' gb1021 (.int .i64 t1015) (.int .i64 t1016) (.bool t1017) (SQ3 w' gb1022 (.int .i64 t1018) (.int .i64 t1019) (.bool t1020)))))))))) (ds := []) #[false, false, false, false, false, false, false, false, false, false, false, false, false, false, false, false, false, false, false, false, false, false, false, false, false, false, false, false, false, false, false, false, false, false, false, false, false, false, false, false, false, false, false, false, false, false, false, false, false, false, false, false, false, false, false, false, false] (by kernel_rfl) rfl rfl (bS2 BK996 (bS2 BK993 (bS3 BK990 (bS3 BK991 (bS3 BK1012 (bS3 BK1013 (bS3 BK1014 (bS3 BK1021 (bT3 BK1022))))))))) (fun hHeld => ?_); refine with_tabW laws_FnPairsKnown.tab9 laws_FnPairsKnown.bits9 (fun HT_ HW_ => ?_)
        generalize w210.drew = w211 at HO1000 HO1002 BK990 BK991 BK992 BK993 BK996 BK1012 BK1013 BK1014 BK1021 BK1022 HB hHeld ⊢
        refine pI 3 (some 46) HT_.out ?_
        refine tI25 0 (some 43) HT_.out HW_.out hHeld ?_
        refine tI25 1 (some 44) HT_.out HW_.out hHeld ?_
        refine pI 2 (some 45) HT_.out ?_
        refine tI25 4 (some 47) HT_.out HW_.out hHeld ?_
        refine pI 5 (some 48) HT_.out ?_
        refine pI 6 (some 49) HT_.out ?_
        refine tI25 7 (some 50) HT_.out HW_.out hHeld ?_
        refine pI 8 (some 51) HT_.out ?_
        refine pI 9 (some 52) HT_.out ?_
        refine pI 10 (some 53) HT_.out ?_
        refine tI25 11 (some 54) HT_.out HW_.out hHeld ?_
        refine tI25 12 (some 55) HT_.out HW_.out hHeld ?_
        refine tI25 15 (some 58) HT_.out HW_.out hHeld ?_
        refine tI25 16 (some 59) HT_.out HW_.out hHeld ?_
        refine join_ (σ := Value × Value) 39 #[true, true, true, true, true, true, true, true, true, true, true, true, true, true, true, true, true, true, false, false, false, false, false, false, false, false, false, false, false, false, false, false, false, false, false, false, false, false, false, false, false, false, false, false, false, false, false, false, false, false, false, false, false, false, false, false, false] (fun s_ => [(56, .agg #[.int .i64 t1051, .int .i64 t1052, .bool t1053]), (57, s_.1), (60, s_.2)]) (fun s_ w' => (w'.cell? ⟨gb996, 0, none⟩ = some (.int .i64 t994) ∧ w'.cell? ⟨gb996, 1, none⟩ = some (.int .i64 t995) ∧ w'.cell? ⟨gb993, 0, none⟩ = some (.int .i64 1) ∧ w'.cell? ⟨gb993, 1, none⟩ = some (.int .i64 0) ∧ w'.cell? ⟨gb990, 0, none⟩ = some (.int .i64 t981) ∧ w'.cell? ⟨gb990, 1, none⟩ = some (.int .i64 t982) ∧ w'.cell? ⟨gb990, 2, none⟩ = some (.bool false) ∧ w'.cell? ⟨gb991, 0, none⟩ = some (.int .i64 t984) ∧ w'.cell? ⟨gb991, 1, none⟩ = some (.int .i64 t985) ∧ w'.cell? ⟨gb991, 2, none⟩ = some (.bool t986) ∧ w'.cell? ⟨gb1012, 0, none⟩ = some (.int .i64 t1003) ∧ w'.cell? ⟨gb1012, 1, none⟩ = some (.int .i64 t1004) ∧ w'.cell? ⟨gb1012, 2, none⟩ = some (.bool t1005) ∧ w'.cell? ⟨gb1013, 0, none⟩ = some (.int .i64 t1006) ∧ w'.cell? ⟨gb1013, 1, none⟩ = some (.int .i64 t1007) ∧ w'.cell? ⟨gb1013, 2, none⟩ = some (.bool t1008) ∧ w'.cell? ⟨gb1014, 0, none⟩ = some (.int .i64 t1009) ∧ w'.cell? ⟨gb1014, 1, none⟩ = some (.int .i64 t1010) ∧ w'.cell? ⟨gb1014, 2, none⟩ = some (.bool t1011) ∧ w'.cell? ⟨gb1021, 0, none⟩ = some (.int .i64 t1015) ∧ w'.cell? ⟨gb1021, 1, none⟩ = some (.int .i64 t1016) ∧ w'.cell? ⟨gb1021, 2, none⟩ = some (.bool t1017) ∧ w'.cell? ⟨gb1022, 0, none⟩ = some (.int .i64 t1018) ∧ w'.cell? ⟨gb1022, 1, none⟩ = some (.int .i64 t1019) ∧ w'.cell? ⟨gb1022, 2, none⟩ = some (.bool t1020)) ∧ (Kd.R k25 25 w' w.heap.size (fun k_ => some k_ ≠ (.slice Ao209 t998.length co209 : Value).ownBlock ∧ some k_ ≠ (s_.1 : Value).ownBlock ∧ some k_ ≠ (s_.2 : Value).ownBlock ∧ k_ ≠ gb990 ∧ k_ ≠ gb991 ∧ k_ ≠ gb992 ∧ k_ ≠ gb1012 ∧ k_ ≠ gb1013 ∧ k_ ≠ gb1014 ∧ k_ ≠ gb1021 ∧ k_ ≠ gb1022) (.slice Ao208 t997.length co208) t997) ∧ (Kd.R k25 25 w' w.heap.size (fun k_ => some k_ ≠ (.slice Ao208 t997.length co208 : Value).ownBlock ∧ some k_ ≠ (s_.1 : Value).ownBlock ∧ some k_ ≠ (s_.2 : Value).ownBlock ∧ k_ ≠ gb990 ∧ k_ ≠ gb991 ∧ k_ ≠ gb992 ∧ k_ ≠ gb1012 ∧ k_ ≠ gb1013 ∧ k_ ≠ gb1014 ∧ k_ ≠ gb1021 ∧ k_ ≠ gb1022) (.slice Ao209 t998.length co209) t998) ∧ (Kd.R k25 25 w' w.heap.size (fun k_ => some k_ ≠ (.slice Ao208 t997.length co208 : Value).ownBlock ∧ some k_ ≠ (.slice Ao209 t998.length co209 : Value).ownBlock ∧ some k_ ≠ (s_.2 : Value).ownBlock ∧ k_ ≠ gb990 ∧ k_ ≠ gb991 ∧ k_ ≠ gb992 ∧ k_ ≠ gb1012 ∧ k_ ≠ gb1013 ∧ k_ ≠ gb1014 ∧ k_ ≠ gb1021 ∧ k_ ≠ gb1022) s_.1 y1054) ∧ (Kd.R k25 25 w' w.heap.size (fun k_ => some k_ ≠ (.slice Ao208 t997.length co208 : Value).ownBlock ∧ some k_ ≠ (.slice Ao209 t998.length co209 : Value).ownBlock ∧ some k_ ≠ (s_.1 : Value).ownBlock ∧ k_ ≠ gb990 ∧ k_ ≠ gb991 ∧ k_ ≠ gb992 ∧ k_ ≠ gb1012 ∧ k_ ≠ gb1013 ∧ k_ ≠ gb1014 ∧ k_ ≠ gb1021 ∧ k_ ≠ gb1022) s_.2 y1057) ∧ (w'.heap[gb1012]? = some (.cells #[.int .i64 t1003, .int .i64 t1004, .bool t1005] 25 (0, 0))) ∧ (w'.heap[gb1013]? = some (.cells #[.int .i64 t1006, .int .i64 t1007, .bool t1008] 25 (0, 0))) ∧ (w'.heap[gb1014]? = some (.cells #[.int .i64 t1009, .int .i64 t1010, .bool t1011] 25 (0, 0))) ∧ (w'.heap[gb1021]? = some (.cells #[.int .i64 t1015, .int .i64 t1016, .bool t1017] 25 (0, 0))) ∧ (w'.heap[gb1022]? = some (.cells #[.int .i64 t1018, .int .i64 t1019, .bool t1020] 25 (0, 0))) ∧ (w'.heap[gb990]? = some (.cells #[.int .i64 t981, .int .i64 t982, .bool false] 25 (0, 0))) ∧ (w'.heap[gb991]? = some (.cells #[.int .i64 t984, .int .i64 t985, .bool t986] 25 (0, 0))) ∧ (w'.heap[gb992]? = some (.cells #[.int .i64 t987, .int .i64 t988, .bool t989] 25 (0, 0))) ∧ (w'.heap[gb993]? = some (.cells #[.int .i64 1, .int .i64 0] 31 (0, 0))) ∧ (w'.heap[gb996]? = some (.cells #[.int .i64 t994, .int .i64 t995] 31 (0, 0))) ∧ (Below w.heap.size w w')) ?_ ?_
        rotate_left
        ·intro hCont
         refine two_ (i := 13) (j := 17) (Ni := some 56) (Nj := some 60) #[true, true, true, true, true, true, true, true, true, true, true, true, true, true, false, true, true, false, false, false, false, false, false, false, false, false, false, false, false, false, false, false, false, false, false, false, false, false, false, false, false, false, false, false, false, false, false, false, false, false, false, false, false, false, false, false, false] #[true, true, true, true, true, true, true, true, true, true, true, true, true, false, false, true, true, true, false, false, false, false, false, false, false, false, false, false, false, false, false, false, false, false, false, false, false, false, false, false, false, false, false, false, false, false, false, false, false, false, false, false, false, false, false, false, false] rfl rfl rfl rfl (two_of HT_.out (by kernel_rfl)) (by decide) (by decide) (fun K hK => ?_) (fun K hK => ?_)
         ·skip
          refine gO Try.func30 #[.agg #[.int .i64 t981, .int .i64 t982, .bool false]] ?_
          with_reducible refine (impl_PointNeg.calls t981 t982 false t1051 t1052 t1053 _ A121.out).mono ?_
          rintro e w212 ⟨rfl, hb⟩
          refine ⟨_, rfl, ?_⟩
          replace HO1000 := Aside0.mk (Kd.R_below (rP HO1000) hb)
          replace HO1002 := Aside0.mk (Kd.R_below (rP HO1002) hb)
          replace BK990 := bB BK990 hb
          replace BK991 := bB BK991 hb
          replace BK992 := bB BK992 hb
          replace BK993 := bB BK993 hb
          replace BK996 := bB BK996 hb
          replace BK1012 := bB BK1012 hb
          replace BK1013 := bB BK1013 hb
          replace BK1014 := bB BK1014 hb
          replace BK1021 := bB BK1021 hb
          replace BK1022 := bB BK1022 hb
          replace HB := bS HB hb
          (try clear hb)
          refine hK.out _ _ (bS2 BK996 (bS2 BK993 (bS3 BK990 (bS3 BK991 (bS3 BK1012 (bS3 BK1013 (bS3 BK1014 (bS3 BK1021 (bT3 BK1022))))))))) (fun hHeld => ?_)
          clear hK K
          refine nO (some 56) ?_
          refine two_ (i := 14) (j := 17) (Ni := some 57) (Nj := some 60) #[true, true, true, true, true, true, true, true, true, true, true, true, true, true, true, true, true, false, false, false, false, false, false, false, false, false, false, false, false, false, false, false, false, false, false, false, false, false, false, false, false, false, false, false, false, false, false, false, false, false, false, false, false, false, false, false, false] #[true, true, true, true, true, true, true, true, true, true, true, true, true, true, false, true, true, true, false, false, false, false, false, false, false, false, false, false, false, false, false, false, false, false, false, false, false, false, false, false, false, false, false, false, false, false, false, false, false, false, false, false, false, false, false, false, false] rfl rfl rfl rfl (two_of HT_.out (by kernel_rfl)) (by decide) (by decide) (fun K hK => ?_) (fun K hK => ?_)
          ·skip
           refine Kd.R_lit_step k25 _ 25 ?hg (N := 57) ?hd (xs := ([(⟨t981, t982, false⟩ : S25), (⟨t1051, t1052, t1053⟩ : S25)] : List (S25))) (inner := [.int .i64 t981, .int .i64 t982, .bool false, .int .i64 t1051, .int .i64 t1052, .bool t1053]) (ok := fun _ => True) (okp := fun _ => True) ?hr ?hp (fun _ hk => hk) trivial (Below.refl _ _) (Nat.le_refl _) (by simp) ?_; (case hd => rfl); (case hg => rfl); (case hr => first | (go_simp; done) | (go_simp; rfl)); (case hp => exact (Reps.c3 (show Kd.M k25 _ _ _ (⟨t981, t982, false⟩ : S25) [.int .i64 t981, .int .i64 t982, .bool false] from (k25_mkM _ _ _ (⟨t981, t982, false⟩ : S25) )) (Reps.c3 (show Kd.M k25 _ _ _ (⟨t1051, t1052, t1053⟩ : S25) [.int .i64 t1051, .int .i64 t1052, .bool t1053] from (k25_mkM _ _ _ (⟨t1051, t1052, t1053⟩ : S25) )) (Reps.none _ _))))
           intro v1055 w213 ho214 hb hg_ hnew_
           clear hg_ hnew_
           (first | rw [← Ny1054.out] at ho214 | (simp only [Int.reduceToNat] at ho214; rw [← Ny1054.out] at ho214))
           have HO1056 := Aside0.mk (Kd.R_lower (Kd.R_newB (Kd.R_newB (Kd.R_newB (Kd.R_newB (Kd.R_newB (Kd.R_newB (Kd.R_newB (Kd.R_newB (Kd.R_new' (Kd.R_new' ho214 (Kd.R_lt (rP HO1000))) (Kd.R_lt (rP HO1002))) (bP BK990)) (bP BK991)) (bP BK992)) (bP BK1012)) (bP BK1013)) (bP BK1014)) (bP BK1021)) (bP BK1022)) (below_size (bZ HB)))
           replace HO1000 := Aside0.mk (Kd.R_elder' (rP HO1000) (Kd.R_base ho214) hb)
           replace HO1002 := Aside0.mk (Kd.R_elder' (rP HO1002) (Kd.R_base ho214) hb)
           replace BK990 := bB BK990 hb
           replace BK991 := bB BK991 hb
           replace BK992 := bB BK992 hb
           replace BK993 := bB BK993 hb
           replace BK996 := bB BK996 hb
           replace BK1012 := bB BK1012 hb
           replace BK1013 := bB BK1013 hb
           replace BK1014 := bB BK1014 hb
           replace BK1021 := bB BK1021 hb
           replace BK1022 := bB BK1022 hb
           replace HB := bS HB hb
           clear hb ho214
           refine hK.out _ _ (bS2 BK996 (bS2 BK993 (bS3 BK990 (bS3 BK991 (bS3 BK1012 (bS3 BK1013 (bS3 BK1014 (bS3 BK1021 (bT3 BK1022))))))))) (fun hHeld => ?_)
           clear hK K
           refine nO (some 57) ?_
           refine oI 17 (some 60) HT_.out (fun K hK => ?_)
           refine Kd.R_lit_step k25 _ 25 ?hg (N := 60) ?hd (xs := ([(⟨t984, t985, t986⟩ : S25), (⟨t984, t985, t986⟩ : S25)] : List (S25))) (inner := [.int .i64 t984, .int .i64 t985, .bool t986, .int .i64 t984, .int .i64 t985, .bool t986]) (ok := fun _ => True) (okp := fun _ => True) ?hr ?hp (fun _ hk => hk) trivial (Below.refl _ _) (Nat.le_refl _) (by simp) ?_; (case hd => rfl); (case hg => rfl); (case hr => first | (go_simp; done) | (go_simp; rfl)); (case hp => exact (Reps.c3 (show Kd.M k25 _ _ _ (⟨t984, t985, t986⟩ : S25) [.int .i64 t984, .int .i64 t985, .bool t986] from (k25_mkM _ _ _ (⟨t984, t985, t986⟩ : S25) )) (Reps.c3 (show Kd.M k25 _ _ _ (⟨t984, t985, t986⟩ : S25) [.int .i64 t984, .int .i64 t985, .bool t986] from (k25_mkM _ _ _ (⟨t984, t985, t986⟩ : S25) )) (Reps.none _ _))))
           intro v1058 w215 ho216 hb hg_ hnew_
           clear hg_ hnew_
           (first | rw [← Ny1057.out] at ho216 | (simp only [Int.reduceToNat] at ho216; rw [← Ny1057.out] at ho216))
           have HO1059 := Aside0.mk (Kd.R_lower (Kd.R_newB (Kd.R_newB (Kd.R_newB (Kd.R_newB (Kd.R_newB (Kd.R_newB (Kd.R_newB (Kd.R_newB (Kd.R_new' (Kd.R_new' (Kd.R_new' ho216 (Kd.R_lt (rP HO1000))) (Kd.R_lt (rP HO1002))) (Kd.R_lt (rP HO1056))) (bP BK990)) (bP BK991)) (bP BK992)) (bP BK1012)) (bP BK1013)) (bP BK1014)) (bP BK1021)) (bP BK1022)) (below_size (bZ HB)))
           replace HO1000 := Aside0.mk (Kd.R_elder' (rP HO1000) (Kd.R_base ho216) hb)
           replace HO1002 := Aside0.mk (Kd.R_elder' (rP HO1002) (Kd.R_base ho216) hb)
           replace HO1056 := Aside0.mk (Kd.R_elder' (rP HO1056) (Kd.R_base ho216) hb)
           replace BK990 := bB BK990 hb
           replace BK991 := bB BK991 hb
           replace BK992 := bB BK992 hb
           replace BK993 := bB BK993 hb
           replace BK996 := bB BK996 hb
           replace BK1012 := bB BK1012 hb
           replace BK1013 := bB BK1013 hb
           replace BK1014 := bB BK1014 hb
           replace BK1021 := bB BK1021 hb
           replace BK1022 := bB BK1022 hb
           replace HB := bS HB hb
           clear hb ho216
           refine hK.out _ _ (bS2 BK996 (bS2 BK993 (bS3 BK990 (bS3 BK991 (bS3 BK1012 (bS3 BK1013 (bS3 BK1014 (bS3 BK1021 (bT3 BK1022))))))))) (fun hHeld => ?_)
           clear hK K
           refine nO (some 60) ?_
           exact norm_ (by simp only [putAll, Act.put, List.setIfInBounds_toArray, List.set_cons_zero, List.set_cons_succ]) (hCont (v1055, v1058) _ ⟨hHeld, (by (with_reducible repeat (first | apply Kd.R_alloc | apply Kd.R_drewN | apply Kd.R_drew)); exact Kd.R_mono HO1000.out (fun _ hk => ⟨hk.1.1.1, ⟨hk.1.2, ⟨hk.2, ⟨hk.1.1.2.1, ⟨hk.1.1.2.2.1, ⟨hk.1.1.2.2.2.1, ⟨hk.1.1.2.2.2.2.1, ⟨hk.1.1.2.2.2.2.2.1, ⟨hk.1.1.2.2.2.2.2.2.1, ⟨hk.1.1.2.2.2.2.2.2.2.1, hk.1.1.2.2.2.2.2.2.2.2⟩⟩⟩⟩⟩⟩⟩⟩⟩⟩)), (by (with_reducible repeat (first | apply Kd.R_alloc | apply Kd.R_drewN | apply Kd.R_drew)); exact Kd.R_mono HO1002.out (fun _ hk => ⟨hk.1.1.1, ⟨hk.1.2, ⟨hk.2, ⟨hk.1.1.2.1, ⟨hk.1.1.2.2.1, ⟨hk.1.1.2.2.2.1, ⟨hk.1.1.2.2.2.2.1, ⟨hk.1.1.2.2.2.2.2.1, ⟨hk.1.1.2.2.2.2.2.2.1, ⟨hk.1.1.2.2.2.2.2.2.2.1, hk.1.1.2.2.2.2.2.2.2.2⟩⟩⟩⟩⟩⟩⟩⟩⟩⟩)), (by (with_reducible repeat (first | apply Kd.R_alloc | apply Kd.R_drewN | apply Kd.R_drew)); exact Kd.R_mono HO1056.out (fun _ hk => ⟨hk.1.1.1.1.1.1.1.1.1.1.2, ⟨hk.1.1.1.1.1.1.1.1.1.2, ⟨hk.2, ⟨hk.1.1.1.1.1.1.1.1.2, ⟨hk.1.1.1.1.1.1.1.2, ⟨hk.1.1.1.1.1.1.2, ⟨hk.1.1.1.1.1.2, ⟨hk.1.1.1.1.2, ⟨hk.1.1.1.2, ⟨hk.1.1.2, hk.1.2⟩⟩⟩⟩⟩⟩⟩⟩⟩⟩)), (by (with_reducible repeat (first | apply Kd.R_alloc | apply Kd.R_drewN | apply Kd.R_drew)); exact Kd.R_mono HO1059.out (fun _ hk => ⟨hk.1.1.1.1.1.1.1.1.1.1.2, ⟨hk.1.1.1.1.1.1.1.1.1.2, ⟨hk.1.1.1.1.1.1.1.1.2, ⟨hk.1.1.1.1.1.1.1.2, ⟨hk.1.1.1.1.1.1.2, ⟨hk.1.1.1.1.1.2, ⟨hk.1.1.1.1.2, ⟨hk.1.1.1.2, ⟨hk.1.1.2, ⟨hk.1.2, hk.2⟩⟩⟩⟩⟩⟩⟩⟩⟩⟩)), (bP BK1012), (bP BK1013), (bP BK1014), (bP BK1021), (bP BK1022), (bP BK990), (bP BK991), (bP BK992), (bP BK993), (bP BK996), (bZ HB)⟩)
          ·skip
           refine Kd.R_lit_step k25 _ 25 ?hg (N := 60) ?hd (xs := ([(⟨t984, t985, t986⟩ : S25), (⟨t984, t985, t986⟩ : S25)] : List (S25))) (inner := [.int .i64 t984, .int .i64 t985, .bool t986, .int .i64 t984, .int .i64 t985, .bool t986]) (ok := fun _ => True) (okp := fun _ => True) ?hr ?hp (fun _ hk => hk) trivial (Below.refl _ _) (Nat.le_refl _) (by simp) ?_; (case hd => rfl); (case hg => rfl); (case hr => first | (go_simp; done) | (go_simp; rfl)); (case hp => exact (Reps.c3 (show Kd.M k25 _ _ _ (⟨t984, t985, t986⟩ : S25) [.int .i64 t984, .int .i64 t985, .bool t986] from (k25_mkM _ _ _ (⟨t984, t985, t986⟩ : S25) )) (Reps.c3 (show Kd.M k25 _ _ _ (⟨t984, t985, t986⟩ : S25) [.int .i64 t984, .int .i64 t985, .bool t986] from (k25_mkM _ _ _ (⟨t984, t985, t986⟩ : S25) )) (Reps.none _ _))))
           intro v1058 w213 ho214 hb hg_ hnew_
           clear hg_ hnew_
           (first | rw [← Ny1057.out] at ho214 | (simp only [Int.reduceToNat] at ho214; rw [← Ny1057.out] at ho214))
           have HO1059 := Aside0.mk (Kd.R_lower (Kd.R_newB (Kd.R_newB (Kd.R_newB (Kd.R_newB (Kd.R_newB (Kd.R_newB (Kd.R_newB (Kd.R_newB (Kd.R_new' (Kd.R_new' ho214 (Kd.R_lt (rP HO1000))) (Kd.R_lt (rP HO1002))) (bP BK990)) (bP BK991)) (bP BK992)) (bP BK1012)) (bP BK1013)) (bP BK1014)) (bP BK1021)) (bP BK1022)) (below_size (bZ HB)))
           replace HO1000 := Aside0.mk (Kd.R_elder' (rP HO1000) (Kd.R_base ho214) hb)
           replace HO1002 := Aside0.mk (Kd.R_elder' (rP HO1002) (Kd.R_base ho214) hb)
           replace BK990 := bB BK990 hb
           replace BK991 := bB BK991 hb
           replace BK992 := bB BK992 hb
           replace BK993 := bB BK993 hb
           replace BK996 := bB BK996 hb
           replace BK1012 := bB BK1012 hb
           replace BK1013 := bB BK1013 hb
           replace BK1014 := bB BK1014 hb
           replace BK1021 := bB BK1021 hb
           replace BK1022 := bB BK1022 hb
           replace HB := bS HB hb
           clear hb ho214
           refine hK.out _ _ (bS2 BK996 (bS2 BK993 (bS3 BK990 (bS3 BK991 (bS3 BK1012 (bS3 BK1013 (bS3 BK1014 (bS3 BK1021 (bT3 BK1022))))))))) (fun hHeld => ?_)
           clear hK K
           refine nO (some 60) ?_
           refine oI 14 (some 57) HT_.out (fun K hK => ?_)
           refine Kd.R_lit_step k25 _ 25 ?hg (N := 57) ?hd (xs := ([(⟨t981, t982, false⟩ : S25), (⟨t1051, t1052, t1053⟩ : S25)] : List (S25))) (inner := [.int .i64 t981, .int .i64 t982, .bool false, .int .i64 t1051, .int .i64 t1052, .bool t1053]) (ok := fun _ => True) (okp := fun _ => True) ?hr ?hp (fun _ hk => hk) trivial (Below.refl _ _) (Nat.le_refl _) (by simp) ?_; (case hd => rfl); (case hg => rfl); (case hr => first | (go_simp; done) | (go_simp; rfl)); (case hp => exact (Reps.c3 (show Kd.M k25 _ _ _ (⟨t981, t982, false⟩ : S25) [.int .i64 t981, .int .i64 t982, .bool false] from (k25_mkM _ _ _ (⟨t981, t982, false⟩ : S25) )) (Reps.c3 (show Kd.M k25 _ _ _ (⟨t1051, t1052, t1053⟩ : S25) [.int .i64 t1051, .int .i64 t1052, .bool t1053] from (k25_mkM _ _ _ (⟨t1051, t1052, t1053⟩ : S25) )) (Reps.none _ _))))
           intro v1055 w215 ho216 hb hg_ hnew_
           clear hg_ hnew_
           (first | rw [← Ny1054.out] at ho216 | (simp only [Int.reduceToNat] at ho216; rw [← Ny1054.out] at ho216))
           have HO1056 := Aside0.mk (Kd.R_lower (Kd.R_newB (Kd.R_newB (Kd.R_newB (Kd.R_newB (Kd.R_newB (Kd.R_newB (Kd.R_newB (Kd.R_newB (Kd.R_new' (Kd.R_new' (Kd.R_new' ho216 (Kd.R_lt (rP HO1000))) (Kd.R_lt (rP HO1002))) (Kd.R_lt (rP HO1059))) (bP BK990)) (bP BK991)) (bP BK992)) (bP BK1012)) (bP BK1013)) (bP BK1014)) (bP BK1021)) (bP BK1022)) (below_size (bZ HB)))
           replace HO1000 := Aside0.mk (Kd.R_elder' (rP HO1000) (Kd.R_base ho216) hb)
           replace HO1002 := Aside0.mk (Kd.R_elder' (rP HO1002) (Kd.R_base ho216) hb)
           replace HO1059 := Aside0.mk (Kd.R_elder' (rP HO1059) (Kd.R_base ho216) hb)
           replace BK990 := bB BK990 hb
           replace BK991 := bB BK991 hb
           replace BK992 := bB BK992 hb
           replace BK993 := bB BK993 hb
           replace BK996 := bB BK996 hb
           replace BK1012 := bB BK1012 hb
           replace BK1013 := bB BK1013 hb
           replace BK1014 := bB BK1014 hb
           replace BK1021 := bB BK1021 hb
           replace BK1022 := bB BK1022 hb
           replace HB := bS HB hb
           clear hb ho216
           refine hK.out _ _ (bS2 BK996 (bS2 BK993 (bS3 BK990 (bS3 BK991 (bS3 BK1012 (bS3 BK1013 (bS3 BK1014 (bS3 BK1021 (bT3 BK1022))))))))) (fun hHeld => ?_)
           clear hK K
           refine nO (some 57) ?_
           exact norm_ (by simp only [putAll, Act.put, List.setIfInBounds_toArray, List.set_cons_zero, List.set_cons_succ]) (hCont (v1055, v1058) _ ⟨hHeld, (by (with_reducible repeat (first | apply Kd.R_alloc | apply Kd.R_drewN | apply Kd.R_drew)); exact Kd.R_mono HO1000.out (fun _ hk => ⟨hk.1.1.1, ⟨hk.2, ⟨hk.1.2, ⟨hk.1.1.2.1, ⟨hk.1.1.2.2.1, ⟨hk.1.1.2.2.2.1, ⟨hk.1.1.2.2.2.2.1, ⟨hk.1.1.2.2.2.2.2.1, ⟨hk.1.1.2.2.2.2.2.2.1, ⟨hk.1.1.2.2.2.2.2.2.2.1, hk.1.1.2.2.2.2.2.2.2.2⟩⟩⟩⟩⟩⟩⟩⟩⟩⟩)), (by (with_reducible repeat (first | apply Kd.R_alloc | apply Kd.R_drewN | apply Kd.R_drew)); exact Kd.R_mono HO1002.out (fun _ hk => ⟨hk.1.1.1, ⟨hk.2, ⟨hk.1.2, ⟨hk.1.1.2.1, ⟨hk.1.1.2.2.1, ⟨hk.1.1.2.2.2.1, ⟨hk.1.1.2.2.2.2.1, ⟨hk.1.1.2.2.2.2.2.1, ⟨hk.1.1.2.2.2.2.2.2.1, ⟨hk.1.1.2.2.2.2.2.2.2.1, hk.1.1.2.2.2.2.2.2.2.2⟩⟩⟩⟩⟩⟩⟩⟩⟩⟩)), (by (with_reducible repeat (first | apply Kd.R_alloc | apply Kd.R_drewN | apply Kd.R_drew)); exact Kd.R_mono HO1056.out (fun _ hk => ⟨hk.1.1.1.1.1.1.1.1.1.1.2, ⟨hk.1.1.1.1.1.1.1.1.1.2, ⟨hk.1.1.1.1.1.1.1.1.2, ⟨hk.1.1.1.1.1.1.1.2, ⟨hk.1.1.1.1.1.1.2, ⟨hk.1.1.1.1.1.2, ⟨hk.1.1.1.1.2, ⟨hk.1.1.1.2, ⟨hk.1.1.2, ⟨hk.1.2, hk.2⟩⟩⟩⟩⟩⟩⟩⟩⟩⟩)), (by (with_reducible repeat (first | apply Kd.R_alloc | apply Kd.R_drewN | apply Kd.R_drew)); exact Kd.R_mono HO1059.out (fun _ hk => ⟨hk.1.1.1.1.1.1.1.1.1.1.2, ⟨hk.1.1.1.1.1.1.1.1.1.2, ⟨hk.2, ⟨hk.1.1.1.1.1.1.1.1.2, ⟨hk.1.1.1.1.1.1.1.2, ⟨hk.1.1.1.1.1.1.2, ⟨hk.1.1.1.1.1.2, ⟨hk.1.1.1.1.2, ⟨hk.1.1.1.2, ⟨hk.1.1.2, hk.1.2⟩⟩⟩⟩⟩⟩⟩⟩⟩⟩)), (bP BK1012), (bP BK1013), (bP BK1014), (bP BK1021), (bP BK1022), (bP BK990), (bP BK991), (bP BK992), (bP BK993), (bP BK996), (bZ HB)⟩)
         ·skip
          refine Kd.R_lit_step k25 _ 25 ?hg (N := 60) ?hd (xs := ([(⟨t984, t985, t986⟩ : S25), (⟨t984, t985, t986⟩ : S25)] : List (S25))) (inner := [.int .i64 t984, .int .i64 t985, .bool t986, .int .i64 t984, .int .i64 t985, .bool t986]) (ok := fun _ => True) (okp := fun _ => True) ?hr ?hp (fun _ hk => hk) trivial (Below.refl _ _) (Nat.le_refl _) (by simp) ?_; (case hd => rfl); (case hg => rfl); (case hr => first | (go_simp; done) | (go_simp; rfl)); (case hp => exact (Reps.c3 (show Kd.M k25 _ _ _ (⟨t984, t985, t986⟩ : S25) [.int .i64 t984, .int .i64 t985, .bool t986] from (k25_mkM _ _ _ (⟨t984, t985, t986⟩ : S25) )) (Reps.c3 (show Kd.M k25 _ _ _ (⟨t984, t985, t986⟩ : S25) [.int .i64 t984, .int .i64 t985, .bool t986] from (k25_mkM _ _ _ (⟨t984, t985, t986⟩ : S25) )) (Reps.none _ _))))
          intro v1058 w212 ho213 hb hg_ hnew_
          clear hg_ hnew_
          (first | rw [← Ny1057.out] at ho213 | (simp only [Int.reduceToNat] at ho213; rw [← Ny1057.out] at ho213))
          have HO1059 := Aside0.mk (Kd.R_lower (Kd.R_newB (Kd.R_newB (Kd.R_newB (Kd.R_newB (Kd.R_newB (Kd.R_newB (Kd.R_newB (Kd.R_newB (Kd.R_new' (Kd.R_new' ho213 (Kd.R_lt (rP HO1000))) (Kd.R_lt (rP HO1002))) (bP BK990)) (bP BK991)) (bP BK992)) (bP BK1012)) (bP BK1013)) (bP BK1014)) (bP BK1021)) (bP BK1022)) (below_size (bZ HB)))
          replace HO1000 := Aside0.mk (Kd.R_elder' (rP HO1000) (Kd.R_base ho213) hb)
          replace HO1002 := Aside0.mk (Kd.R_elder' (rP HO1002) (Kd.R_base ho213) hb)
          replace BK990 := bB BK990 hb
          replace BK991 := bB BK991 hb
          replace BK992 := bB BK992 hb
          replace BK993 := bB BK993 hb
          replace BK996 := bB BK996 hb
          replace BK1012 := bB BK1012 hb
          replace BK1013 := bB BK1013 hb
          replace BK1014 := bB BK1014 hb
          replace BK1021 := bB BK1021 hb
          replace BK1022 := bB BK1022 hb
          replace HB := bS HB hb
          clear hb ho213
          refine hK.out _ _ (bS2 BK996 (bS2 BK993 (bS3 BK990 (bS3 BK991 (bS3 BK1012 (bS3 BK1013 (bS3 BK1014 (bS3 BK1021 (bT3 BK1022))))))))) (fun hHeld => ?_)
          clear hK K
          refine nO (some 60) ?_
          refine oI 13 (some 56) HT_.out (fun K hK => ?_)
          refine gO Try.func30 #[.agg #[.int .i64 t981, .int .i64 t982, .bool false]] ?_
          with_reducible refine (impl_PointNeg.calls t981 t982 false t1051 t1052 t1053 _ A121.out).mono ?_
          rintro e w214 ⟨rfl, hb⟩
          refine ⟨_, rfl, ?_⟩
          replace HO1000 := Aside0.mk (Kd.R_below (rP HO1000) hb)
          replace HO1002 := Aside0.mk (Kd.R_below (rP HO1002) hb)
          replace HO1059 := Aside0.mk (Kd.R_below (rP HO1059) hb)
          replace BK990 := bB BK990 hb
          replace BK991 := bB BK991 hb
          replace BK992 := bB BK992 hb
          replace BK993 := bB BK993 hb
          replace BK996 := bB BK996 hb
          replace BK1012 := bB BK1012 hb
          replace BK1013 := bB BK1013 hb
          replace BK1014 := bB BK1014 hb
          replace BK1021 := bB BK1021 hb
          replace BK1022 := bB BK1022 hb
          replace HB := bS HB hb
          (try clear hb)
          refine hK.out _ _ (bS2 BK996 (bS2 BK993 (bS3 BK990 (bS3 BK991 (bS3 BK1012 (bS3 BK1013 (bS3 BK1014 (bS3 BK1021 (bT3 BK1022))))))))) (fun hHeld => ?_)
          clear hK K
          refine nO (some 56) ?_
          refine oI 14 (some 57) HT_.out (fun K hK => ?_)
          refine Kd.R_lit_step k25 _ 25 ?hg (N := 57) ?hd (xs := ([(⟨t981, t982, false⟩ : S25), (⟨t1051, t1052, t1053⟩ : S25)] : List (S25))) (inner := [.int .i64 t981, .int .i64 t982, .bool false, .int .i64 t1051, .int .i64 t1052, .bool t1053]) (ok := fun _ => True) (okp := fun _ => True) ?hr ?hp (fun _ hk => hk) trivial (Below.refl _ _) (Nat.le_refl _) (by simp) ?_; (case hd => rfl); (case hg => rfl); (case hr => first | (go_simp; done) | (go_simp; rfl)); (case hp => exact (Reps.c3 (show Kd.M k25 _ _ _ (⟨t981, t982, false⟩ : S25) [.int .i64 t981, .int .i64 t982, .bool false] from (k25_mkM _ _ _ (⟨t981, t982, false⟩ : S25) )) (Reps.c3 (show Kd.M k25 _ _ _ (⟨t1051, t1052, t1053⟩ : S25) [.int .i64 t1051, .int .i64 t1052, .bool t1053] from (k25_mkM _ _ _ (⟨t1051, t1052, t1053⟩ : S25) )) (Reps.none _ _))))
          intro v1055 w215 ho216 hb hg_ hnew_
          clear hg_ hnew_
          (first | rw [← Ny1054.out] at ho216 | (simp only [Int.reduceToNat] at ho216; rw [← Ny1054.out] at ho216))
          have HO1056 := Aside0.mk (Kd.R_lower (Kd.R_newB (Kd.R_newB (Kd.R_newB (Kd.R_newB (Kd.R_newB (Kd.R_newB (Kd.R_newB (Kd.R_newB (Kd.R_new' (Kd.R_new' (Kd.R_new' ho216 (Kd.R_lt (rP HO1000))) (Kd.R_lt (rP HO1002))) (Kd.R_lt (rP HO1059))) (bP BK990)) (bP BK991)) (bP BK992)) (bP BK1012)) (bP BK1013)) (bP BK1014)) (bP BK1021)) (bP BK1022)) (below_size (bZ HB)))
          replace HO1000 := Aside0.mk (Kd.R_elder' (rP HO1000) (Kd.R_base ho216) hb)
          replace HO1002 := Aside0.mk (Kd.R_elder' (rP HO1002) (Kd.R_base ho216) hb)
          replace HO1059 := Aside0.mk (Kd.R_elder' (rP HO1059) (Kd.R_base ho216) hb)
          replace BK990 := bB BK990 hb
          replace BK991 := bB BK991 hb
          replace BK992 := bB BK992 hb
          replace BK993 := bB BK993 hb
          replace BK996 := bB BK996 hb
          replace BK1012 := bB BK1012 hb
          replace BK1013 := bB BK1013 hb
          replace BK1014 := bB BK1014 hb
          replace BK1021 := bB BK1021 hb
          replace BK1022 := bB BK1022 hb
          replace HB := bS HB hb
          clear hb ho216
          refine hK.out _ _ (bS2 BK996 (bS2 BK993 (bS3 BK990 (bS3 BK991 (bS3 BK1012 (bS3 BK1013 (bS3 BK1014 (bS3 BK1021 (bT3 BK1022))))))))) (fun hHeld => ?_)
          clear hK K
          refine nO (some 57) ?_
          exact norm_ (by simp only [putAll, Act.put, List.setIfInBounds_toArray, List.set_cons_zero, List.set_cons_succ]) (hCont (v1055, v1058) _ ⟨hHeld, (by (with_reducible repeat (first | apply Kd.R_alloc | apply Kd.R_drewN | apply Kd.R_drew)); exact Kd.R_mono HO1000.out (fun _ hk => ⟨hk.1.1.1, ⟨hk.2, ⟨hk.1.2, ⟨hk.1.1.2.1, ⟨hk.1.1.2.2.1, ⟨hk.1.1.2.2.2.1, ⟨hk.1.1.2.2.2.2.1, ⟨hk.1.1.2.2.2.2.2.1, ⟨hk.1.1.2.2.2.2.2.2.1, ⟨hk.1.1.2.2.2.2.2.2.2.1, hk.1.1.2.2.2.2.2.2.2.2⟩⟩⟩⟩⟩⟩⟩⟩⟩⟩)), (by (with_reducible repeat (first | apply Kd.R_alloc | apply Kd.R_drewN | apply Kd.R_drew)); exact Kd.R_mono HO1002.out (fun _ hk => ⟨hk.1.1.1, ⟨hk.2, ⟨hk.1.2, ⟨hk.1.1.2.1, ⟨hk.1.1.2.2.1, ⟨hk.1.1.2.2.2.1, ⟨hk.1.1.2.2.2.2.1, ⟨hk.1.1.2.2.2.2.2.1, ⟨hk.1.1.2.2.2.2.2.2.1, ⟨hk.1.1.2.2.2.2.2.2.2.1, hk.1.1.2.2.2.2.2.2.2.2⟩⟩⟩⟩⟩⟩⟩⟩⟩⟩)), (by (with_reducible repeat (first | apply Kd.R_alloc | apply Kd.R_drewN | apply Kd.R_drew)); exact Kd.R_mono HO1056.out (fun _ hk => ⟨hk.1.1.1.1.1.1.1.1.1.1.2, ⟨hk.1.1.1.1.1.1.1.1.1.2, ⟨hk.1.1.1.1.1.1.1.1.2, ⟨hk.1.1.1.1.1.1.1.2, ⟨hk.1.1.1.1.1.1.2, ⟨hk.1.1.1.1.1.2, ⟨hk.1.1.1.1.2, ⟨hk.1.1.1.2, ⟨hk.1.1.2, ⟨hk.1.2, hk.2⟩⟩⟩⟩⟩⟩⟩⟩⟩⟩)), (by (with_reducible repeat (first | apply Kd.R_alloc | apply Kd.R_drewN | apply Kd.R_drew)); exact Kd.R_mono HO1059.out (fun _ hk => ⟨hk.1.1.1.1.1.1.1.1.1.1.2, ⟨hk.1.1.1.1.1.1.1.1.1.2, ⟨hk.2, ⟨hk.1.1.1.1.1.1.1.1.2, ⟨hk.1.1.1.1.1.1.1.2, ⟨hk.1.1.1.1.1.1.2, ⟨hk.1.1.1.1.1.2, ⟨hk.1.1.1.1.2, ⟨hk.1.1.1.2, ⟨hk.1.1.2, hk.1.2⟩⟩⟩⟩⟩⟩⟩⟩⟩⟩)), (bP BK1012), (bP BK1013), (bP BK1014), (bP BK1021), (bP BK1022), (bP BK990), (bP BK991), (bP BK992), (bP BK993), (bP BK996), (bZ HB)⟩)
        rintro ⟨v1055, v1058⟩ w217 ⟨hS_, h0_, h1_, h2_, h3_, h4_, h5_, h6_, h7_, h8_, h9_, h10_, h11_, h12_, h13_, h14_⟩
        replace HO1000 : Aside0 (Kd.R k25 25 w217 w.heap.size (fun k_ => some k_ ≠ (.slice Ao209 t998.length co209 : Value).ownBlock ∧ some k_ ≠ (v1055 : Value).ownBlock ∧ some k_ ≠ (v1058 : Value).ownBlock ∧ k_ ≠ gb990 ∧ k_ ≠ gb991 ∧ k_ ≠ gb992 ∧ k_ ≠ gb1012 ∧ k_ ≠ gb1013 ∧ k_ ≠ gb1014 ∧ k_ ≠ gb1021 ∧ k_ ≠ gb1022) (.slice Ao208 t997.length co208) t997) := ⟨h0_⟩
        replace HO1002 : Aside0 (Kd.R k25 25 w217 w.heap.size (fun k_ => some k_ ≠ (.slice Ao208 t997.length co208 : Value).ownBlock ∧ some k_ ≠ (v1055 : Value).ownBlock ∧ some k_ ≠ (v1058 : Value).ownBlock ∧ k_ ≠ gb990 ∧ k_ ≠ gb991 ∧ k_ ≠ gb992 ∧ k_ ≠ gb1012 ∧ k_ ≠ gb1013 ∧ k_ ≠ gb1014 ∧ k_ ≠ gb1021 ∧ k_ ≠ gb1022) (.slice Ao209 t998.length co209) t998) := ⟨h1_⟩
        have HO1056 : Aside0 (Kd.R k25 25 w217 w.heap.size (fun k_ => some k_ ≠ (.slice Ao208 t997.length co208 : Value).ownBlock ∧ some k_ ≠ (.slice Ao209 t998.length co209 : Value).ownBlock ∧ some k_ ≠ (v1058 : Value).ownBlock ∧ k_ ≠ gb990 ∧ k_ ≠ gb991 ∧ k_ ≠ gb992 ∧ k_ ≠ gb1012 ∧ k_ ≠ gb1013 ∧ k_ ≠ gb1014 ∧ k_ ≠ gb1021 ∧ k_ ≠ gb1022) v1055 y1054) := ⟨h2_⟩
        have HO1059 : Aside0 (Kd.R k25 25 w217 w.heap.size (fun k_ => some k_ ≠ (.slice Ao208 t997.length co208 : Value).ownBlock ∧ some k_ ≠ (.slice Ao209 t998.length co209 : Value).ownBlock ∧ some k_ ≠ (v1055 : Value).ownBlock ∧ k_ ≠ gb990 ∧ k_ ≠ gb991 ∧ k_ ≠ gb992 ∧ k_ ≠ gb1012 ∧ k_ ≠ gb1013 ∧ k_ ≠ gb1014 ∧ k_ ≠ gb1021 ∧ k_ ≠ gb1022) v1058 y1057) := ⟨h3_⟩
        replace BK1012 : Aside0 (w217.heap[gb1012]? = some (.cells #[.int .i64 t1003, .int .i64 t1004, .bool t1005] 25 (0, 0))) := ⟨h4_⟩
        replace BK1013 : Aside0 (w217.heap[gb1013]? = some (.cells #[.int .i64 t1006, .int .i64 t1007, .bool t1008] 25 (0, 0))) := ⟨h5_⟩
        replace BK1014 : Aside0 (w217.heap[gb1014]? = some (.cells #[.int .i64 t1009, .int .i64 t1010, .bool t1011] 25 (0, 0))) := ⟨h6_⟩
        replace BK1021 : Aside0 (w217.heap[gb1021]? = some (.cells #[.int .i64 t1015, .int .i64 t1016, .bool t1017] 25 (0, 0))) := ⟨h7_⟩
        replace BK1022 : Aside0 (w217.heap[gb1022]? = some (.cells #[.int .i64 t1018, .int .i64 t1019, .bool t1020] 25 (0, 0))) := ⟨h8_⟩
        replace BK990 : Aside0 (w217.heap[gb990]? = some (.cells #[.int .i64 t981, .int .i64 t982, .bool false] 25 (0, 0))) := ⟨h9_⟩
        replace BK991 : Aside0 (w217.heap[gb991]? = some (.cells #[.int .i64 t984, .int .i64 t985, .bool t986] 25 (0, 0))) := ⟨h10_⟩
        replace BK992 : Aside0 (w217.heap[gb992]? = some (.cells #[.int .i64 t987, .int .i64 t988, .bool t989] 25 (0, 0))) := ⟨h11_⟩
        replace BK993 : Aside0 (w217.heap[gb993]? = some (.cells #[.int .i64 1, .int .i64 0] 31 (0, 0))) := ⟨h12_⟩
        replace BK996 : Aside0 (w217.heap[gb996]? = some (.cells #[.int .i64 t994, .int .i64 t995] 31 (0, 0))) := ⟨h13_⟩
        replace HB : Aside0 (Below w.heap.size w w217) := ⟨h14_⟩
        clear h0_ h1_ h2_ h3_ h4_ h5_ h6_ h7_ h8_ h9_ h10_ h11_ h12_ h13_ h14_
        have hHeld : w217.cell? ⟨gb996, 0, none⟩ = some (.int .i64 t994) ∧ w217.cell? ⟨gb996, 1, none⟩ = some (.int .i64 t995) ∧ w217.cell? ⟨gb993, 0, none⟩ = some (.int .i64 1) ∧ w217.cell? ⟨gb993, 1, none⟩ = some (.int .i64 0) ∧ w217.cell? ⟨gb990, 0, none⟩ = some (.int .i64 t981) ∧ w217.cell? ⟨gb990, 1, none⟩ = some (.int .i64 t982) ∧ w217.cell? ⟨gb990, 2, none⟩ = some (.bool false) ∧ w217.cell? ⟨gb991, 0, none⟩ = some (.int .i64 t984) ∧ w217.cell? ⟨gb991, 1, none⟩ = some (.int .i64 t985) ∧ w217.cell? ⟨gb991, 2, none⟩ = some (.bool t986) ∧ w217.cell? ⟨gb1012, 0, none⟩ = some (.int .i64 t1003) ∧ w217.cell? ⟨gb1012, 1, none⟩ = some (.int .i64 t1004) ∧ w217.cell? ⟨gb1012, 2, none⟩ = some (.bool t1005) ∧ w217.cell? ⟨gb1013, 0, none⟩ = some (.int .i64 t1006) ∧ w217.cell? ⟨gb1013, 1, none⟩ = some (.int .i64 t1007) ∧ w217.cell? ⟨gb1013, 2, none⟩ = some (.bool t1008) ∧ w217.cell? ⟨gb1014, 0, none⟩ = some (.int .i64 t1009) ∧ w217.cell? ⟨gb1014, 1, none⟩ = some (.int .i64 t1010) ∧ w217.cell? ⟨gb1014, 2, none⟩ = some (.bool t1011) ∧ w217.cell? ⟨gb1021, 0, none⟩ = some (.int .i64 t1015) ∧ w217.cell? ⟨gb1021, 1, none⟩ = some (.int .i64 t1016) ∧ w217.cell? ⟨gb1021, 2, none⟩ = some (.bool t1017) ∧ w217.cell? ⟨gb1022, 0, none⟩ = some (.int .i64 t1018) ∧ w217.cell? ⟨gb1022, 1, none⟩ = some (.int .i64 t1019) ∧ w217.cell? ⟨gb1022, 2, none⟩ = some (.bool t1020) := hS_
        obtain ⟨Ao218, co218, eo218⟩ := Kd.R_slice HO1056.out
        (first | subst eo218 | (injection eo218 with f1_ f2_ f3_; have f4_ := f1_.symm; have f5_ := f3_.symm; clear f1_ f2_ f3_; subst f4_; subst f5_))
        obtain ⟨Ao219, co219, eo219⟩ := Kd.R_slice HO1059.out
        (first | subst eo219 | (injection eo219 with f1_ f2_ f3_; have f4_ := f1_.symm; have f5_ := f3_.symm; clear f1_ f2_ f3_; subst f4_; subst f5_))
        refine norm_ (a' := ?_) ?_ ?_
        rotate_left
        ·simp only [putAll, Act.put, List.setIfInBounds_toArray, List.set_cons_zero, List.set_cons_succ]
         rfl
        refine oI 18 (some 61) HT_.out (fun K hK => ?_)
        refine gO Try.func42 #[.slice Ao218 y1054.length co218, .slice Ao219 y1057.length co219] ?_
        with_reducible refine (impl_PairsRight.calls k _ _ y1054 _ _ y1057 true _ ?side1 ?side2 ?side3 ?side4 A122.out).mono ?_
        (case side1 => exact cP ((Kd.R_reads' HO1056.out).2.2))
        (case side2 => exact (Kd.R_reads' HO1056.out).2.1)
        (case side3 => exact cP ((Kd.R_reads' HO1059.out).2.2))
        (case side4 => exact (Kd.R_reads' HO1059.out).2.1)
        rintro e w220 ⟨rfl, hb⟩
        refine ⟨_, rfl, ?_⟩
        replace HO1000 := Aside0.mk (Kd.R_below (rP HO1000) hb)
        replace HO1002 := Aside0.mk (Kd.R_below (rP HO1002) hb)
        replace HO1056 := Aside0.mk (Kd.R_below (rP HO1056) hb)
        replace HO1059 := Aside0.mk (Kd.R_below (rP HO1059) hb)
        replace BK990 := bB BK990 hb
        replace BK991 := bB BK991 hb
        replace BK992 := bB BK992 hb
        replace BK993 := bB BK993 hb
        replace BK996 := bB BK996 hb
        replace BK1012 := bB BK1012 hb
        replace BK1013 := bB BK1013 hb
        replace BK1014 := bB BK1014 hb
        replace BK1021 := bB BK1021 hb
        replace BK1022 := bB BK1022 hb
        replace HB := bS HB hb
        (try clear hb)
        refine hK.out _ _ (bS2 BK996 (bS2 BK993 (bS3 BK990 (bS3 BK991 (bS3 BK1012 (bS3 BK1013 (bS3 BK1014 (bS3 BK1021 (bT3 BK1022))))))))) (fun hHeld => ?_)
        clear hK K
        refine nO (some 61) ?_
        refine pI 19 (some 62) HT_.out ?_
        refine pI 20 (some 63) HT_.out ?_
        refine pI 21 (some 64) HT_.out ?_
        refine pI 22 (some 65) HT_.out ?_
        refine pI 24 (some 67) HT_.out ?_
        refine pI 25 (some 68) HT_.out ?_
        refine oI 23 (some 66) HT_.out (fun K hK => ?_)
        refine gO Try.func42 #[.slice Ao208 t997.length co208, .slice Ao209 t998.length co209] ?_
        with_reducible refine (impl_PairsRight.calls k _ _ t997 _ _ t998 t1061 _ ?side1 ?side2 ?side3 ?side4 A124.out).mono ?_
        (case side1 => exact cP ((Kd.R_reads' HO1000.out).2.2))
        (case side2 => exact (Kd.R_reads' HO1000.out).2.1)
        (case side3 => exact cP ((Kd.R_reads' HO1002.out).2.2))
        (case side4 => exact (Kd.R_reads' HO1002.out).2.1)
        rintro e w221 ⟨rfl, hb⟩
        refine ⟨_, rfl, ?_⟩
        replace HO1000 := Aside0.mk (Kd.R_below (rP HO1000) hb)
        replace HO1002 := Aside0.mk (Kd.R_below (rP HO1002) hb)
        replace HO1056 := Aside0.mk (Kd.R_below (rP HO1056) hb)
        replace HO1059 := Aside0.mk (Kd.R_below (rP HO1059) hb)
        replace BK990 := bB BK990 hb
        replace BK991 := bB BK991 hb
        replace BK992 := bB BK992 hb
        replace BK993 := bB BK993 hb
        replace BK996 := bB BK996 hb
        replace BK1012 := bB BK1012 hb
        replace BK1013 := bB BK1013 hb
        replace BK1014 := bB BK1014 hb
        replace BK1021 := bB BK1021 hb
        replace BK1022 := bB BK1022 hb
        replace HB := bS HB hb
        (try clear hb)
        refine hK.out _ _ (bS2 BK996 (bS2 BK993 (bS3 BK990 (bS3 BK991 (bS3 BK1012 (bS3 BK1013 (bS3 BK1014 (bS3 BK1021 (bT3 BK1022))))))))) (fun hHeld => ?_)
        clear hK K
        refine nO (some 66) ?_
        refine oI 26 (some 69) HT_.out (fun K hK => ?_)
        refine gO Try.func41 #[.slice Ao208 t997.length co208, .slice Ao209 t998.length co209] ?_
        with_reducible refine (spec_PairsRight.calls k _ _ t997 _ _ t998 t1062 _ ?side1 ?side2 ?side3 ?side4 A125.out).mono ?_
        (case side1 => exact cP ((Kd.R_reads' HO1000.out).2.2))
        (case side2 => exact (Kd.R_reads' HO1000.out).2.1)
        (case side3 => exact cP ((Kd.R_reads' HO1002.out).2.2))
        (case side4 => exact (Kd.R_reads' HO1002.out).2.1)
        rintro e w222 ⟨rfl, hb⟩
        refine ⟨_, rfl, ?_⟩
        replace HO1000 := Aside0.mk (Kd.R_below (rP HO1000) hb)
        replace HO1002 := Aside0.mk (Kd.R_below (rP HO1002) hb)
        replace HO1056 := Aside0.mk (Kd.R_below (rP HO1056) hb)
        replace HO1059 := Aside0.mk (Kd.R_below (rP HO1059) hb)
        replace BK990 := bB BK990 hb
        replace BK991 := bB BK991 hb
        replace BK992 := bB BK992 hb
        replace BK993 := bB BK993 hb
        replace BK996 := bB BK996 hb
        replace BK1012 := bB BK1012 hb
        replace BK1013 := bB BK1013 hb
        replace BK1014 := bB BK1014 hb
        replace BK1021 := bB BK1021 hb
        replace BK1022 := bB BK1022 hb
        replace HB := bS HB hb
        (try clear hb)
        refine hK.out _ _ (bS2 BK996 (bS2 BK993 (bS3 BK990 (bS3 BK991 (bS3 BK1012 (bS3 BK1013 (bS3 BK1014 (bS3 BK1021 (bT3 BK1022))))))))) (fun hHeld => ?_)
        clear hK K
        refine nO (some 69) ?_
        refine pI 27 (some 70) HT_.out ?_
        refine pI 28 (some 71) HT_.out ?_
        refine pI 29 (some 72) HT_.out ?_
        refine tI25 30 (some 73) HT_.out HW_.out hHeld ?_
        refine tI25 31 (some 74) HT_.out HW_.out hHeld ?_
        refine tI25 32 (some 75) HT_.out HW_.out hHeld ?_
        refine tI25 34 (some 77) HT_.out HW_.out hHeld ?_
        refine tI25 35 (some 78) HT_.out HW_.out hHeld ?_
        refine tI25 36 (some 79) HT_.out HW_.out hHeld ?_
        refine oI 33 (some 76) HT_.out (fun K hK => ?_)
        refine gO Try.func25 #[.agg #[.int .i64 t1003, .int .i64 t1004, .bool t1005], .agg #[.int .i64 t1006, .int .i64 t1007, .bool t1008], .agg #[.int .i64 t1009, .int .i64 t1010, .bool t1011]] ?_
        with_reducible refine (impl_PairLine.calls k t1003 t1004 t1005 t1006 t1007 t1008 t1009 t1010 t1011 t1063 t1064 _ A127.out).mono ?_
        rintro e w223 ⟨rfl, hb⟩
        refine ⟨_, rfl, ?_⟩
        replace HO1000 := Aside0.mk (Kd.R_below (rP HO1000) hb)
        replace HO1002 := Aside0.mk (Kd.R_below (rP HO1002) hb)
        replace HO1056 := Aside0.mk (Kd.R_below (rP HO1056) hb)
        replace HO1059 := Aside0.mk (Kd.R_below (rP HO1059) hb)
        replace BK990 := bB BK990 hb
        replace BK991 := bB BK991 hb
        replace BK992 := bB BK992 hb
        replace BK993 := bB BK993 hb
        replace BK996 := bB BK996 hb
        replace BK1012 := bB BK1012 hb
        replace BK1013 := bB BK1013 hb
        replace BK1014 := bB BK1014 hb
        replace BK1021 := bB BK1021 hb
        replace BK1022 := bB BK1022 hb
        replace HB := bS HB hb
        (try clear hb)
        refine hK.out _ _ (bS2 BK996 (bS2 BK993 (bS3 BK990 (bS3 BK991 (bS3 BK1012 (bS3 BK1013 (bS3 BK1014 (bS3 BK1021 (bT3 BK1022))))))))) (fun hHeld => ?_)
        clear hK K
        refine nO (some 76) ?_
        refine oI 37 (some 80) HT_.out (fun K hK => ?_)
        refine gO Try.func23 #[.agg #[.int .i64 t1003, .int .i64 t1004, .bool t1005], .agg #[.int .i64 t1006, .int .i64 t1007, .bool t1008], .agg #[.int .i64 t1009, .int .i64 t1010, .bool t1011]] ?_
        with_reducible refine (spec_PairLine.calls k t1003 t1004 t1005 t1006 t1007 t1008 t1009 t1010 t1011 t1065 t1066 _ A128.out).mono ?_
        rintro e w224 ⟨rfl, hb⟩
        refine ⟨_, rfl, ?_⟩
        replace HO1000 := Aside0.mk (Kd.R_below (rP HO1000) hb)
        replace HO1002 := Aside0.mk (Kd.R_below (rP HO1002) hb)
        replace HO1056 := Aside0.mk (Kd.R_below (rP HO1056) hb)
        replace HO1059 := Aside0.mk (Kd.R_below (rP HO1059) hb)
        replace BK990 := bB BK990 hb
        replace BK991 := bB BK991 hb
        replace BK992 := bB BK992 hb
        replace BK993 := bB BK993 hb
        replace BK996 := bB BK996 hb
        replace BK1012 := bB BK1012 hb
        replace BK1013 := bB BK1013 hb
        replace BK1014 := bB BK1014 hb
        replace BK1021 := bB BK1021 hb
        replace BK1022 := bB BK1022 hb
        replace HB := bS HB hb
        (try clear hb)
        refine hK.out _ _ (bS2 BK996 (bS2 BK993 (bS3 BK990 (bS3 BK991 (bS3 BK1012 (bS3 BK1013 (bS3 BK1014 (bS3 BK1021 (bT3 BK1022))))))))) (fun hHeld => ?_)
        clear hK K
        refine nO (some 80) ?_
        refine pI 38 (some 81) HT_.out ?_
        refine pI 39 (some 82) HT_.out ?_
        refine pI 40 (some 83) HT_.out ?_
        refine tI25 41 (some 84) HT_.out HW_.out hHeld ?_
        refine tI25 42 (some 85) HT_.out HW_.out hHeld ?_
        refine tI25 44 (some 87) HT_.out HW_.out hHeld ?_
        refine tI25 45 (some 88) HT_.out HW_.out hHeld ?_
        refine oI 43 (some 86) HT_.out (fun K hK => ?_)
        refine gO Try.func40 #[.agg #[.int .i64 t1015, .int .i64 t1016, .bool t1017], .agg #[.int .i64 t1018, .int .i64 t1019, .bool t1020]] ?_
        with_reducible refine (impl_Miller.calls k t1015 t1016 t1017 t1018 t1019 t1020 t1067 t1068 _ A130.out).mono ?_
        rintro e w225 ⟨rfl, hb⟩
        refine ⟨_, rfl, ?_⟩
        replace HO1000 := Aside0.mk (Kd.R_below (rP HO1000) hb)
        replace HO1002 := Aside0.mk (Kd.R_below (rP HO1002) hb)
        replace HO1056 := Aside0.mk (Kd.R_below (rP HO1056) hb)
        replace HO1059 := Aside0.mk (Kd.R_below (rP HO1059) hb)
        replace BK990 := bB BK990 hb
        replace BK991 := bB BK991 hb
        replace BK992 := bB BK992 hb
        replace BK993 := bB BK993 hb
        replace BK996 := bB BK996 hb
        replace BK1012 := bB BK1012 hb
        replace BK1013 := bB BK1013 hb
        replace BK1014 := bB BK1014 hb
        replace BK1021 := bB BK1021 hb
        replace BK1022 := bB BK1022 hb
        replace HB := bS HB hb
        (try clear hb)
        refine hK.out _ _ (bS2 BK996 (bS2 BK993 (bS3 BK990 (bS3 BK991 (bS3 BK1012 (bS3 BK1013 (bS3 BK1014 (bS3 BK1021 (bT3 BK1022))))))))) (fun hHeld => ?_)
        clear hK K
        refine nO (some 86) ?_
        refine oI 46 (some 89) HT_.out (fun K hK => ?_)
        refine gO Try.func39 #[.agg #[.int .i64 t1015, .int .i64 t1016, .bool t1017], .agg #[.int .i64 t1018, .int .i64 t1019, .bool t1020]] ?_
        with_reducible refine (spec_Miller.calls k t1015 t1016 t1017 t1018 t1019 t1020 t1069 t1070 _ A131.out).mono ?_
        rintro e w226 ⟨rfl, hb⟩
        refine ⟨_, rfl, ?_⟩
        replace HO1000 := Aside0.mk (Kd.R_below (rP HO1000) hb)
        replace HO1002 := Aside0.mk (Kd.R_below (rP HO1002) hb)
        replace HO1056 := Aside0.mk (Kd.R_below (rP HO1056) hb)
        replace HO1059 := Aside0.mk (Kd.R_below (rP HO1059) hb)
        replace BK990 := bB BK990 hb
        replace BK991 := bB BK991 hb
        replace BK992 := bB BK992 hb
        replace BK993 := bB BK993 hb
        replace BK996 := bB BK996 hb
        replace BK1012 := bB BK1012 hb
        replace BK1013 := bB BK1013 hb
        replace BK1014 := bB BK1014 hb
        replace BK1021 := bB BK1021 hb
        replace BK1022 := bB BK1022 hb
        replace HB := bS HB hb
        (try clear hb)
        refine hK.out _ _ (bS2 BK996 (bS2 BK993 (bS3 BK990 (bS3 BK991 (bS3 BK1012 (bS3 BK1013 (bS3 BK1014 (bS3 BK1021 (bT3 BK1022))))))))) (fun hHeld => ?_)
        clear hK K
        refine nO (some 89) ?_
        refine pI 47 (some 90) HT_.out ?_
        refine pI 48 (some 91) HT_.out ?_
        refine pI 49 (some 92) HT_.out ?_
        refine pI 53 (some 96) HT_.out ?_
        refine oI 50 (some 93) HT_.out (fun K hK => ?_)
        refine gO Try.func54 #[] ?_
        with_reducible refine (impl_Base.calls  t1071 t1072 t1073 _ A133.out).mono ?_
        rintro e w227 ⟨rfl, hb⟩
        refine ⟨_, rfl, ?_⟩
        replace HO1000 := Aside0.mk (Kd.R_below (rP HO1000) hb)
        replace HO1002 := Aside0.mk (Kd.R_below (rP HO1002) hb)
        replace HO1056 := Aside0.mk (Kd.R_below (rP HO1056) hb)
        replace HO1059 := Aside0.mk (Kd.R_below (rP HO1059) hb)
        replace BK990 := bB BK990 hb
        replace BK991 := bB BK991 hb
        replace BK992 := bB BK992 hb
        replace BK993 := bB BK993 hb
        replace BK996 := bB BK996 hb
        replace BK1012 := bB BK1012 hb
        replace BK1013 := bB BK1013 hb
        replace BK1014 := bB BK1014 hb
        replace BK1021 := bB BK1021 hb
        replace BK1022 := bB BK1022 hb
        replace HB := bS HB hb
        (try clear hb)
        refine hK.out _ _ (bS2 BK996 (bS2 BK993 (bS3 BK990 (bS3 BK991 (bS3 BK1012 (bS3 BK1013 (bS3 BK1014 (bS3 BK1021 (bT3 BK1022))))))))) (fun hHeld => ?_)
        clear hK K
        refine nO (some 93) ?_
        refine oI 51 (some 94) HT_.out (fun K hK => ?_)
        refine gO Try.func54 #[] ?_
        with_reducible refine (impl_Base.calls  t1074 t1075 t1076 _ A134.out).mono ?_
        rintro e w228 ⟨rfl, hb⟩
        refine ⟨_, rfl, ?_⟩
        replace HO1000 := Aside0.mk (Kd.R_below (rP HO1000) hb)
        replace HO1002 := Aside0.mk (Kd.R_below (rP HO1002) hb)
        replace HO1056 := Aside0.mk (Kd.R_below (rP HO1056) hb)
        replace HO1059 := Aside0.mk (Kd.R_below (rP HO1059) hb)
        replace BK990 := bB BK990 hb
        replace BK991 := bB BK991 hb
        replace BK992 := bB BK992 hb
        replace BK993 := bB BK993 hb
        replace BK996 := bB BK996 hb
        replace BK1012 := bB BK1012 hb
        replace BK1013 := bB BK1013 hb
        replace BK1014 := bB BK1014 hb
        replace BK1021 := bB BK1021 hb
        replace BK1022 := bB BK1022 hb
        replace HB := bS HB hb
        (try clear hb)
        refine hK.out _ _ (bS2 BK996 (bS2 BK993 (bS3 BK990 (bS3 BK991 (bS3 BK1012 (bS3 BK1013 (bS3 BK1014 (bS3 BK1021 (bT3 BK1022))))))))) (fun hHeld => ?_)
        clear hK K
        refine nO (some 94) ?_
        refine oI 52 (some 95) HT_.out (fun K hK => ?_)
        refine gO Try.func17 #[.agg #[.int .i64 t1071, .int .i64 t1072, .bool t1073], .agg #[.int .i64 t1074, .int .i64 t1075, .bool t1076]] ?_
        with_reducible refine (impl_Pairing.calls k t1071 t1072 t1073 t1074 t1075 t1076 t1077 t1078 _ A135.out).mono ?_
        rintro e w229 ⟨rfl, hb⟩
        refine ⟨_, rfl, ?_⟩
        replace HO1000 := Aside0.mk (Kd.R_below (rP HO1000) hb)
        replace HO1002 := Aside0.mk (Kd.R_below (rP HO1002) hb)
        replace HO1056 := Aside0.mk (Kd.R_below (rP HO1056) hb)
        replace HO1059 := Aside0.mk (Kd.R_below (rP HO1059) hb)
        replace BK990 := bB BK990 hb
        replace BK991 := bB BK991 hb
        replace BK992 := bB BK992 hb
        replace BK993 := bB BK993 hb
        replace BK996 := bB BK996 hb
        replace BK1012 := bB BK1012 hb
        replace BK1013 := bB BK1013 hb
        replace BK1014 := bB BK1014 hb
        replace BK1021 := bB BK1021 hb
        replace BK1022 := bB BK1022 hb
        replace HB := bS HB hb
        (try clear hb)
        refine hK.out _ _ (bS2 BK996 (bS2 BK993 (bS3 BK990 (bS3 BK991 (bS3 BK1012 (bS3 BK1013 (bS3 BK1014 (bS3 BK1021 (bT3 BK1022))))))))) (fun hHeld => ?_)
        clear hK K
        refine nO (some 95) ?_
        refine pI 54 (some 97) HT_.out ?_
        refine pI 55 (some 98) HT_.out ?_
        refine pI 56 (some 2) HT_.out ?_
        refine done_ (done_of HT_.out (by kernel_rfl)) ?_
        try go_wp2
        go_ret
        exact ⟨rR, bZ HB⟩
       ·rw [if_neg c132] at H
        have c132b0 : (t1067 == t1069 && (t1068 == t1070)) = false := by simpa using c132
        (try (have c132b1 : decide (t1067 = t1069 && (t1068 == t1070)) = false := by simpa using c132))
        (try (have c132b2 : (t1067 == t1069 && (t1068 == t1070)) = false := by simpa using c132))
        (try (have c132b3 : ¬ (t1067 = t1069 && (t1068 == t1070)) := by simpa using c132))
        clear c132
        exact absurd (Option.some.inj H) (by rw [htrue.out]; exact Bool.false_ne_true)
      ·rw [if_neg c129] at H
       have c129b0 : (t1063 == t1065 && (t1064 == t1066)) = false := by simpa using c129
       (try (have c129b1 : decide (t1063 = t1065 && (t1064 == t1066)) = false := by simpa using c129))
       (try (have c129b2 : (t1063 == t1065 && (t1064 == t1066)) = false := by simpa using c129))
       (try (have c129b3 : ¬ (t1063 = t1065 && (t1064 == t1066)) := by simpa using c129))
       clear c129
       exact absurd (Option.some.inj H) (by rw [htrue.out]; exact Bool.false_ne_true)
     ·rw [if_neg c126] at H
      have c126b0 : (t1061 == t1062) = false := by simpa using c126
      (try (have c126b1 : decide (t1061 = t1062) = false := by simpa using c126))
      (try (have c126b2 : (t1061 == t1062) = false := by simpa using c126))
      (try (have c126b3 : ¬ (t1061 = t1062) := by simpa using c126))
      clear c126
      exact absurd (Option.some.inj H) (by rw [htrue.out]; exact Bool.false_ne_true)
    ·replace c123 := Bool.eq_false_iff.mpr c123
     subst c123
     rw [if_neg (show ¬ (false = true) by decide)] at H
     exact absurd (Option.some.inj H) (by rw [htrue.out]; exact Bool.false_ne_true)
   ·rw [if_neg c120] at H
    have c120b0 : ((t994 == 1 && (t995 == 0)) == t986) = false := by simpa using c120
    (try (have c120b1 : decide ((t994 == 1 && (t995 == 0)) = t986) = false := by simpa using c120))
    (try (have c120b2 : ((t994 == 1 && (t995 == 0)) == t986) = false := by simpa using c120))
    (try (have c120b3 : ¬ ((t994 == 1 && (t995 == 0)) = t986) := by simpa using c120))
    clear c120
    exact absurd (Option.some.inj H) (by rw [htrue.out]; exact Bool.false_ne_true)

/-- THE ONE PURE STATEMENT of laws_FnPairsKnown: yours. -/
def laws_FnPairsKnown.Pure : Prop := ∀ (l0 : List Int), l0.length ≤ maxLen → l0.length * 1 ≤ 140737488351232 → (∀ x ∈ l0, (Lit.int .u8 x).wf = true) → ∃ k, laws_FnPairsKnown.f k l0 = some true
theorem laws_FnPairsKnown.walk (P : laws_FnPairsKnown.Pure) (a0 : Option Addr) (len0 cap0 : Nat) (z0 : List Int) (w : World) (w0 : (a0 = none ∧ len0 = 0 ∧ cap0 = 0 ∧ z0 = []) ∨ ∃ x, a0 = some x ∧ len0 ≤ cap0 ∧ cap0 ≤ maxLen ∧ z0.length = cap0 ∧ (∀ i, i < z0.length → w.cell? (x.add i) = some (.int .u8 (z0.getD i 0))) ∧ ∀ n ∈ z0, (Lit.int .u8 n).wf = true) (y0 : len0 * 1 ≤ 140737488351232) :
  Calls Try.prog 13 #[.slice a0 len0 cap0] w fun e w' => e = .returned (.bool true) ∧ Below w.heap.size w w' := by
 obtain ⟨l0, rfl, hr0, hm0, hw0, hc0⟩ := ReadsInt.ofRowC w0
 obtain ⟨k, h⟩ := P l0 hm0 y0 hw0
 refine (laws_FnPairsKnown.calls k _ _ l0 true w (Kd.C_of_reads (d := (0 : Int)) (h1 := fun _ => rfl) hr0) hc0 ⟨rfl⟩ h).mono ?_
 rintro e w' ⟨rfl, hd⟩
 exact ⟨rfl, hd⟩
end Go.Proofs.Ytmbjefdkjdemhaa.Pf
end
