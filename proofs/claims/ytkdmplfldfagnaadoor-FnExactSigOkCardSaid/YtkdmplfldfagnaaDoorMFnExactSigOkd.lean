/- What is proved here: part 4 of 5 of the proof of the given statement FnExactSigOk: the contracts of the Go functions that it reaches, the plain facts on lists and numbers, and (in the last part) the statement itself. No conditions beyond the given ones. -/
import Derived.Test.YtkdmplfldfagnaaDoorMFnExactSigOkwSlim
import Derived.Test.YtkdmplfldfagnaaDoorMFnExactSigOka
import Derived.Test.YtkdmplfldfagnaaDoorMFnExactSigOkc
import Derived.Test.YtkdmplfldfagnaaDoorMFnExactSigOkb

section
namespace Go.Proofs.YtkdmplfldfagnaaDoor.Pf
open Go.RowKit Go.Proofs.YtkdmplfldfagnaaDoorW.PrintWords Go.Proofs.YtkdmplfldfagnaaDoorW.PrintLast Go.Proofs.YtkdmplfldfagnaaDoorW.PrintMore
attribute [local go_sem] max2_int min2_int max_two min_two max_three min_three max_four min_four   -- for this text's walks alone
set_option linter.unusedVariables false
set_option linter.unusedSimpArgs false
/-! ### impl_TwoMul: function 109 -/
def impl_TwoMul.f (a0_0 : Int) (a0_1 : Int) (a1_0 : Int) (a1_1 : Int) : Option (Int × Int) := (impl_FpMul.f a0_0 a1_0).bind fun t617 => ((impl_FpMul.f a0_1 a1_1).bind fun t618 => ((impl_FpSub.f t617 t618).bind fun t619 => ((impl_FpMul.f a0_0 a1_1).bind fun t620 => ((impl_FpMul.f a0_1 a1_0).bind fun t621 => ((impl_FpAdd.f t620 t621).bind fun t622 => (some (t619, t622)))))))
def impl_TwoMul.T1 : Bool × List (List Nat × List Nat) := (true, [([], []), ([0], [0]), ([], []), ([2], [2]), ([1, 3], [1, 3]), ([], []), ([5], [5]), ([], []), ([7], [7]), ([6, 8, 4], [6, 8]), ([4, 9, 9], [4, 9]), ([], []), ([11], [11]), ([], []), ([13], [13]), ([12, 14, 10], [12, 14]), ([], []), ([16], [16]), ([], []), ([18], [18]), ([17, 19, 15], [17, 19]), ([15, 20, 20], [15, 20]), ([10, 21], [10, 21]), ([22, 21, 0, 1, 2, 3, 4, 5, 6, 7, 8, 9, 10, 11, 12, 13, 14, 15, 16, 17, 18, 19, 20, 21, 22], [22])])
def impl_TwoMul.B1 : List Nat := [0, 1, 0, 4, 15, 0, 32, 0, 128, 511, 1023, 0, 2048, 0, 8192, 32767, 0, 65536, 0, 262144, 1048575, 2097151, 4194303, 8388607]
theorem impl_TwoMul.tab1 : rtab .any (opsOf Tryd.f109 1) = impl_TwoMul.T1 := by kernel_rfl
theorem impl_TwoMul.bits1 : waitsOk impl_TwoMul.T1.2 impl_TwoMul.B1 = true := by kernel_rfl
set_option maxHeartbeats 8000000 in
set_option maxRecDepth 100000 in
theorem impl_TwoMul.calls (a0_0 : Int) (a0_1 : Int) (a1_0 : Int) (a1_1 : Int) (r1 : Int) (r2 : Int) (w : World) (h : impl_TwoMul.f a0_0 a0_1 a1_0 a1_1 = some (r1, r2)) :
  Calls Tryd.prog 109 #[.agg #[.int .i64 a0_0, .int .i64 a0_1], .agg #[.int .i64 a1_0, .int .i64 a1_1]] w fun e w' => e = .returned (.agg #[.int .i64 r1, .int .i64 r2]) ∧ Below w.heap.size w w' := by
 have hu80 := Tryd.underlying80
 have HB := Aside0.mk (Below.refl w.heap.size w)
 have H : ((impl_FpMul.f a0_0 a1_0).bind fun t617 => ((impl_FpMul.f a0_1 a1_1).bind fun t618 => ((impl_FpSub.f t617 t618).bind fun t619 => ((impl_FpMul.f a0_0 a1_1).bind fun t620 => ((impl_FpMul.f a0_1 a1_0).bind fun t621 => ((impl_FpAdd.f t620 t621).bind fun t622 => (some (t619, t622)))))))) = some (r1, r2) := h
 clear h
 replace H := Option.bind_eq_some_iff.mp H
 obtain ⟨t617, A30, H⟩ := H
 have A3 := Aside0.mk A30
 clear A30
 replace H := Option.bind_eq_some_iff.mp H
 obtain ⟨t618, A40, H⟩ := H
 have A4 := Aside0.mk A40
 clear A40
 replace H := Option.bind_eq_some_iff.mp H
 obtain ⟨t619, A50, H⟩ := H
 have A5 := Aside0.mk A50
 clear A50
 replace H := Option.bind_eq_some_iff.mp H
 obtain ⟨t620, A60, H⟩ := H
 have A6 := Aside0.mk A60
 clear A60
 replace H := Option.bind_eq_some_iff.mp H
 obtain ⟨t621, A70, H⟩ := H
 have A7 := Aside0.mk A70
 clear A70
 replace H := Option.bind_eq_some_iff.mp H
 obtain ⟨t622, A80, H⟩ := H
 have A8 := Aside0.mk A80
 clear A80
 simp only [Option.some.injEq, Prod.mk.injEq] at H
 obtain ⟨rfl, rfl⟩ := H
 go_enter Tryd.func109, Tryd.ntmps109
 try go_wp2_with (first | ((with_reducible refine gate_dst (N := 2) rfl ?_); refine bE 2 #[.int .i64 a0_0, .int .i64 a0_1] 80 ?_; intro gb614 hg w9 hbox hb; have BK614 := Aside0.mk (hbox); have GW614 := bG HB hg; have GE614 := bG HB hg; replace HB := bS HB hb; clear hb hbox hg) | ((with_reducible refine gate_dst (N := 3) rfl ?_); refine bE 3 #[.int .i64 a1_0, .int .i64 a1_1] 80 ?_; intro gb615 hg w10 hbox hb; have BK615 := Aside0.mk (hbox); have GW615 := bG HB hg; have GE615 := bG HB hg; replace HB := bS HB hb; have NB614_615 := bL BK614 hg; have NB615_614 := bR BK614 hg; replace BK614 := bB BK614 hb; clear hb hbox hg) | ((with_reducible refine gate_dst (N := 4) rfl ?_); refine bE 4 #[.int .i64 0, .int .i64 0] 80 ?_; intro gb616 hg w11 hbox hb; have BK616 := Aside0.mk (hbox); have GW616 := bG HB hg; have GE616 := bG HB hg; replace HB := bS HB hb; have NB614_616 := bL BK614 hg; have NB616_614 := bR BK614 hg; replace BK614 := bB BK614 hb; have NB615_616 := bL BK615 hg; have NB616_615 := bR BK615 hg; replace BK615 := bB BK615 hb; clear hb hbox hg))
 replace BK614 := Aside0.mk (blk_drew BK614.out)
 replace BK615 := Aside0.mk (blk_drew BK615.out)
 replace BK616 := Aside0.mk (blk_drew BK616.out)
 replace HB := Aside0.mk (below_drew1 HB.out)
 refine start_ (n := 24) (S := fun w' => w'.cell? ⟨gb614, 0, none⟩ = some (.int .i64 a0_0) ∧ w'.cell? ⟨gb614, 1, none⟩ = some (.int .i64 a0_1) ∧ w'.cell? ⟨gb615, 0, none⟩ = some (.int .i64 a1_0) ∧ w'.cell? ⟨gb615, 1, none⟩ = some (.int .i64 a1_1)) (ds := []) #[false, false, false, false, false, false, false, false, false, false, false, false, false, false, false, false, false, false, false, false, false, false, false, false] (by kernel_rfl) rfl rfl ⟨bc BK614 0, bc BK614 1, bc BK615 0, bc BK615 1⟩ (fun hHeld => ?_); refine with_tabW impl_TwoMul.tab1 impl_TwoMul.bits1 (fun HT_ HW_ => ?_)
 generalize w11.drew = w12 at BK614 BK615 BK616 HB hHeld ⊢
 refine pI 0 (some 5) HT_.out ?_
 refine pI 2 (some 7) HT_.out ?_
 refine pI 5 (some 10) HT_.out ?_
 refine pI 7 (some 12) HT_.out ?_
 refine pI 11 (some 16) HT_.out ?_
 refine pI 13 (some 18) HT_.out ?_
 refine pI 16 (some 21) HT_.out ?_
 refine pI 18 (some 23) HT_.out ?_
 refine tI4 1 (some 6) HT_.out HW_.out hHeld ?_
 refine tI4 3 (some 8) HT_.out HW_.out hHeld ?_
 refine tI4 6 (some 11) HT_.out HW_.out hHeld ?_
 refine tI4 8 (some 13) HT_.out HW_.out hHeld ?_
 refine tI4 12 (some 17) HT_.out HW_.out hHeld ?_
 refine tI4 14 (some 19) HT_.out HW_.out hHeld ?_
 refine tI4 17 (some 22) HT_.out HW_.out hHeld ?_
 refine tI4 19 (some 24) HT_.out HW_.out hHeld ?_
 refine oI 4 (some 9) HT_.out (fun K hK => ?_)
 refine gO Tryd.func95 #[.int .i64 a0_0, .int .i64 a1_0] ?_
 with_reducible refine (impl_FpMul.calls a0_0 a1_0 t617 _ A3.out).mono ?_
 rintro e w' ⟨rfl, ⟨nd, rfl⟩⟩
 refine ⟨_, rfl, ?_⟩
 refine hK.out _ _ ⟨bc BK614 0, bc BK614 1, bc BK615 0, bc BK615 1⟩ (fun hHeld => ?_)
 clear hK K
 refine nO (some 9) ?_
 refine oI 9 (some 14) HT_.out (fun K hK => ?_)
 refine gO Tryd.func95 #[.int .i64 a0_1, .int .i64 a1_1] ?_
 with_reducible refine (impl_FpMul.calls a0_1 a1_1 t618 _ A4.out).mono ?_
 rintro e w' ⟨rfl, ⟨nd, rfl⟩⟩
 refine ⟨_, rfl, ?_⟩
 refine hK.out _ _ ⟨bc BK614 0, bc BK614 1, bc BK615 0, bc BK615 1⟩ (fun hHeld => ?_)
 clear hK K
 refine nO (some 14) ?_
 refine oI 10 (some 15) HT_.out (fun K hK => ?_)
 refine gO Tryd.func126 #[.int .i64 t617, .int .i64 t618] ?_
 with_reducible refine (impl_FpSub.calls t617 t618 t619 _ A5.out).mono ?_
 rintro e w' ⟨rfl, ⟨nd, rfl⟩⟩
 refine ⟨_, rfl, ?_⟩
 refine hK.out _ _ ⟨bc BK614 0, bc BK614 1, bc BK615 0, bc BK615 1⟩ (fun hHeld => ?_)
 clear hK K
 refine nO (some 15) ?_
 refine oI 15 (some 20) HT_.out (fun K hK => ?_)
 refine gO Tryd.func95 #[.int .i64 a0_0, .int .i64 a1_1] ?_
 with_reducible refine (impl_FpMul.calls a0_0 a1_1 t620 _ A6.out).mono ?_
 rintro e w' ⟨rfl, ⟨nd, rfl⟩⟩
 refine ⟨_, rfl, ?_⟩
 refine hK.out _ _ ⟨bc BK614 0, bc BK614 1, bc BK615 0, bc BK615 1⟩ (fun hHeld => ?_)
 clear hK K
 refine nO (some 20) ?_
 refine oI 20 (some 25) HT_.out (fun K hK => ?_)
 refine gO Tryd.func95 #[.int .i64 a0_1, .int .i64 a1_0] ?_
 with_reducible refine (impl_FpMul.calls a0_1 a1_0 t621 _ A7.out).mono ?_
 rintro e w' ⟨rfl, ⟨nd, rfl⟩⟩
 refine ⟨_, rfl, ?_⟩
 refine hK.out _ _ ⟨bc BK614 0, bc BK614 1, bc BK615 0, bc BK615 1⟩ (fun hHeld => ?_)
 clear hK K
 refine nO (some 25) ?_
 refine oI 21 (some 26) HT_.out (fun K hK => ?_)
 refine gO Tryd.func96 #[.int .i64 t620, .int .i64 t621] ?_
 with_reducible refine (impl_FpAdd.calls t620 t621 t622 _ A8.out).mono ?_
 rintro e w' ⟨rfl, ⟨nd, rfl⟩⟩
 refine ⟨_, rfl, ?_⟩
 refine hK.out _ _ ⟨bc BK614 0, bc BK614 1, bc BK615 0, bc BK615 1⟩ (fun hHeld => ?_)
 clear hK K
 refine nO (some 26) ?_
 refine pI 22 (some 27) HT_.out ?_
 refine oI 23 (none) HT_.out (fun K hK => ?_)
 have hs13 : w12.cell? ⟨gb616, 0, none⟩ = some (.int .i64 0) := bc BK616 0
 have hfs13 := blk_frozen BK616.out 0
 have hns13_0 := NB614_616.out
 have hns13_1 := NB615_616.out
 have hms13_0 := NB616_614.out
 have hms13_1 := NB616_615.out
 have hs14 : w12.cell? ⟨gb616, 1, none⟩ = some (.int .i64 0) := bc BK616 1
 have hfs14 := blk_frozen BK616.out 1
 have hns14_0 := NB614_616.out
 have hns14_1 := NB615_616.out
 have hms14_0 := NB616_614.out
 have hms14_1 := NB616_615.out
 refine skip_ (w1 := ?_) (by rfl) rfl ?_ ?_
 rotate_left
 ·go_simp
  rfl
 refine hK.out _ _ ⟨((cell_far (p := ⟨gb616, _, none⟩) NB614_616.out _).trans (((cell_far (p := ⟨gb616, _, none⟩) NB614_616.out _).trans (hHeld.1)))), ((cell_far (p := ⟨gb616, _, none⟩) NB614_616.out _).trans (((cell_far (p := ⟨gb616, _, none⟩) NB614_616.out _).trans (hHeld.2.1)))), ((cell_far (p := ⟨gb616, _, none⟩) NB615_616.out _).trans (((cell_far (p := ⟨gb616, _, none⟩) NB615_616.out _).trans (hHeld.2.2.1)))), ((cell_far (p := ⟨gb616, _, none⟩) NB615_616.out _).trans (((cell_far (p := ⟨gb616, _, none⟩) NB615_616.out _).trans (hHeld.2.2.2))))⟩ (fun hHeld => ?_)
 clear hK K
 refine done_ (done_of HT_.out (by kernel_rfl)) ?_
 try go_wp2
 refine rC gb616 80 #[.int .i64 t619, .int .i64 t622] (bU BK616) Tryd.underlying80 ?_
 exact ⟨rR, bZ HB⟩
/-! ### impl_PointAdd: function 59 -/
def impl_PointAdd.f (k : Nat) (a0_0 : Int) (a0_1 : Int) (a0_2 : Bool) (a1_0 : Int) (a1_1 : Int) (a1_2 : Bool) : Option (Int × Int × Bool) := (impl_PointOk.f a0_0 a0_1 a0_2).bind fun t347 => (if t347 = true then ((impl_PointOk.f a1_0 a1_1 a1_2).bind fun t348 => (if t348 = true then ((impl_add.f k a0_0 a0_1 a0_2 a1_0 a1_1 a1_2).bind fun bt349 => (some (bt349.1, bt349.2.1, bt349.2.2))) else (some (0, 0, true)))) else (some (0, 0, true)))
theorem impl_PointAdd.mono : ∀ a0 a1 a2 a3 a4 a5 k, LeO (impl_PointAdd.f k a0 a1 a2 a3 a4 a5) (impl_PointAdd.f (k + 1) a0 a1 a2 a3 a4 a5) := by
 intro a0 a1 a2 a3 a4 a5 k
 unfold impl_PointAdd.f
 repeat' first
   | (with_reducible exact impl_add.mono _ _ _ _ _ _ _)
   | (with_reducible exact LeO.refl _)
   | (with_reducible exact LeO.none _)
   | (with_reducible refine LeO.ite ?_ ?_)
   | (with_reducible refine LeO.bind ?_ (fun _ => ?_))
   | exact impl_add.mono _ _ _ _ _ _ _
   | exact LeO.none _
   | refine LeO.ite ?_ ?_
   | refine LeO.bind ?_ (fun _ => ?_)
set_option maxHeartbeats 8000000 in
set_option maxRecDepth 100000 in
theorem impl_PointAdd.calls (k : Nat) (a0_0 : Int) (a0_1 : Int) (a0_2 : Bool) (a1_0 : Int) (a1_1 : Int) (a1_2 : Bool) (r1 : Int) (r2 : Int) (r3 : Bool) (w : World) (h : impl_PointAdd.f k a0_0 a0_1 a0_2 a1_0 a1_1 a1_2 = some (r1, r2, r3)) :
  Calls Tryd.prog 59 #[.agg #[.int .i64 a0_0, .int .i64 a0_1, .bool a0_2], .agg #[.int .i64 a1_0, .int .i64 a1_1, .bool a1_2]] w fun e w' => e = .returned (.agg #[.int .i64 r1, .int .i64 r2, .bool r3]) ∧ Below w.heap.size w w' := by
 have hu23 := Tryd.underlying23
 have HB := Aside0.mk (Below.refl w.heap.size w)
 have H : ((impl_PointOk.f a0_0 a0_1 a0_2).bind fun t347 => (if t347 = true then ((impl_PointOk.f a1_0 a1_1 a1_2).bind fun t348 => (if t348 = true then ((impl_add.f k a0_0 a0_1 a0_2 a1_0 a1_1 a1_2).bind fun bt349 => (some (bt349.1, bt349.2.1, bt349.2.2))) else (some (0, 0, true)))) else (some (0, 0, true)))) = some (r1, r2, r3) := h
 clear h
 replace H := Option.bind_eq_some_iff.mp H
 obtain ⟨t347, A30, H⟩ := H
 have A3 := Aside0.mk A30
 clear A30
 by_cases c4 : t347 = true
 ·subst c4
  rw [if_pos rfl] at H
  replace H := Option.bind_eq_some_iff.mp H
  obtain ⟨t348, A50, H⟩ := H
  have A5 := Aside0.mk A50
  clear A50
  by_cases c6 : t348 = true
  ·subst c6
   rw [if_pos rfl] at H
   replace H := Option.bind_eq_some_iff.mp H
   obtain ⟨⟨t349, t350, t351⟩, A70, H⟩ := H
   have A7 := Aside0.mk A70
   clear A70
   simp only [Option.some.injEq, Prod.mk.injEq] at H
   obtain ⟨rfl, rfl, rfl⟩ := H
   go_enter Tryd.func59, Tryd.ntmps59
   go_wp2_with (first | ((with_reducible refine gate_dst (N := 2) rfl ?_); refine bE 2 #[.int .i64 a0_0, .int .i64 a0_1, .bool a0_2] 23 ?_; intro gb344 hg w8 hbox hb; have BK344 := Aside0.mk (hbox); have GW344 := bG HB hg; have GE344 := bG HB hg; replace HB := bS HB hb; clear hb hbox hg) | ((with_reducible refine gate_dst (N := 3) rfl ?_); refine bE 3 #[.int .i64 a1_0, .int .i64 a1_1, .bool a1_2] 23 ?_; intro gb345 hg w9 hbox hb; have BK345 := Aside0.mk (hbox); have GW345 := bG HB hg; have GE345 := bG HB hg; replace HB := bS HB hb; have NB344_345 := bL BK344 hg; have NB345_344 := bR BK344 hg; replace BK344 := bB BK344 hb; clear hb hbox hg) | ((with_reducible refine gate_dst (N := 4) rfl ?_); refine bE 4 #[.int .i64 0, .int .i64 0, .bool false] 23 ?_; intro gb346 hg w10 hbox hb; have BK346 := Aside0.mk (hbox); have GW346 := bG HB hg; have GE346 := bG HB hg; replace HB := bS HB hb; have NB344_346 := bL BK344 hg; have NB346_344 := bR BK344 hg; replace BK344 := bB BK344 hb; have NB345_346 := bL BK345 hg; have NB346_345 := bR BK345 hg; replace BK345 := bB BK345 hb; clear hb hbox hg; have hnb11 := NB344_345.out; have hnc11 := NB345_344.out; have hnb12 := NB344_346.out; have hnc12 := NB346_344.out; obtain ⟨hcz13_0, hcz13_1, hcz13_2, hfz13_0, hfz13_1, hfz13_2⟩ := bK3 (w := w10) BK344) | ((with_reducible refine gate_callee (f := 97) rfl ?_); refine gL (some 6) Tryd.func97 #[.agg #[.int .i64 a0_0, .int .i64 a0_1, .bool a0_2]] ?_; (with_reducible refine (impl_PointOk.calls a0_0 a0_1 a0_2 true _ A3.out).mono ?_); rintro e w14 ⟨rfl, hb⟩; refine ⟨_, rfl, ?_⟩; replace BK344 := bB BK344 hb; replace BK345 := bB BK345 hb; replace BK346 := bB BK346 hb; replace HB := bS HB hb; (try clear hb); have hnb15 := NB345_346.out; have hnc15 := NB346_345.out; obtain ⟨hcz16_0, hcz16_1, hcz16_2, hfz16_0, hfz16_1, hfz16_2⟩ := bK3 (w := w14) BK345) | (go_at_call 97; (with_reducible refine (impl_PointOk.calls a1_0 a1_1 a1_2 true _ A5.out).mono ?_); rintro e w17 ⟨rfl, hb⟩; replace BK344 := bB BK344 hb; replace BK345 := bB BK345 hb; replace BK346 := bB BK346 hb; replace HB := bS HB hb; (try clear hb); obtain ⟨hcz18_0, hcz18_1, hcz18_2, hfz18_0, hfz18_1, hfz18_2⟩ := bK3 (w := w17) BK344; obtain ⟨hcz19_0, hcz19_1, hcz19_2, hfz19_0, hfz19_1, hfz19_2⟩ := bK3 (w := w17) BK345) | ((with_reducible refine gate_callee (f := 98) rfl ?_); refine gL (some 16) Tryd.func98 #[.agg #[.int .i64 a0_0, .int .i64 a0_1, .bool a0_2], .agg #[.int .i64 a1_0, .int .i64 a1_1, .bool a1_2]] ?_; (with_reducible refine (impl_add.calls k a0_0 a0_1 a0_2 a1_0 a1_1 a1_2 t349 t350 t351 _ A7.out).mono ?_); rintro e w20 ⟨rfl, hb⟩; refine ⟨_, rfl, ?_⟩; replace BK344 := bB BK344 hb; replace BK345 := bB BK345 hb; replace BK346 := bB BK346 hb; replace HB := bS HB hb; (try clear hb); obtain ⟨hcz21_0, hcz21_1, hcz21_2, hfz21_0, hfz21_1, hfz21_2⟩ := bK3 (w := w20) BK346))
   refine rC gb346 23 #[.int .i64 t349, .int .i64 t350, .bool t351] (bU BK346) Tryd.underlying23 ?_
   exact ⟨rR, bZ HB⟩
  ·replace c6 := Bool.eq_false_iff.mpr c6
   subst c6
   rw [if_neg (show ¬ (false = true) by decide)] at H
   simp only [Option.some.injEq, Prod.mk.injEq] at H
   obtain ⟨rfl, rfl, rfl⟩ := H
   go_enter Tryd.func59, Tryd.ntmps59
   go_wp2_with (first | ((with_reducible refine gate_dst (N := 2) rfl ?_); refine bE 2 #[.int .i64 a0_0, .int .i64 a0_1, .bool a0_2] 23 ?_; intro gb344 hg w22 hbox hb; have BK344 := Aside0.mk (hbox); have GW344 := bG HB hg; have GE344 := bG HB hg; replace HB := bS HB hb; clear hb hbox hg) | ((with_reducible refine gate_dst (N := 3) rfl ?_); refine bE 3 #[.int .i64 a1_0, .int .i64 a1_1, .bool a1_2] 23 ?_; intro gb345 hg w23 hbox hb; have BK345 := Aside0.mk (hbox); have GW345 := bG HB hg; have GE345 := bG HB hg; replace HB := bS HB hb; have NB344_345 := bL BK344 hg; have NB345_344 := bR BK344 hg; replace BK344 := bB BK344 hb; clear hb hbox hg) | ((with_reducible refine gate_dst (N := 4) rfl ?_); refine bE 4 #[.int .i64 0, .int .i64 0, .bool false] 23 ?_; intro gb346 hg w24 hbox hb; have BK346 := Aside0.mk (hbox); have GW346 := bG HB hg; have GE346 := bG HB hg; replace HB := bS HB hb; have NB344_346 := bL BK344 hg; have NB346_344 := bR BK344 hg; replace BK344 := bB BK344 hb; have NB345_346 := bL BK345 hg; have NB346_345 := bR BK345 hg; replace BK345 := bB BK345 hb; clear hb hbox hg; have hnb25 := NB344_345.out; have hnc25 := NB345_344.out; have hnb26 := NB344_346.out; have hnc26 := NB346_344.out; obtain ⟨hcz27_0, hcz27_1, hcz27_2, hfz27_0, hfz27_1, hfz27_2⟩ := bK3 (w := w24) BK344) | ((with_reducible refine gate_callee (f := 97) rfl ?_); refine gL (some 6) Tryd.func97 #[.agg #[.int .i64 a0_0, .int .i64 a0_1, .bool a0_2]] ?_; (with_reducible refine (impl_PointOk.calls a0_0 a0_1 a0_2 true _ A3.out).mono ?_); rintro e w28 ⟨rfl, hb⟩; refine ⟨_, rfl, ?_⟩; replace BK344 := bB BK344 hb; replace BK345 := bB BK345 hb; replace BK346 := bB BK346 hb; replace HB := bS HB hb; (try clear hb); have hnb29 := NB345_346.out; have hnc29 := NB346_345.out; obtain ⟨hcz30_0, hcz30_1, hcz30_2, hfz30_0, hfz30_1, hfz30_2⟩ := bK3 (w := w28) BK345) | (go_at_call 97; (with_reducible refine (impl_PointOk.calls a1_0 a1_1 a1_2 false _ A5.out).mono ?_); rintro e w31 ⟨rfl, hb⟩; replace BK344 := bB BK344 hb; replace BK345 := bB BK345 hb; replace BK346 := bB BK346 hb; replace HB := bS HB hb; (try clear hb); obtain ⟨hcz32_0, hcz32_1, hcz32_2, hfz32_0, hfz32_1, hfz32_2⟩ := bK3 (w := w31) BK346))
   refine rC gb346 23 #[.int .i64 0, .int .i64 0, .bool true] (bU BK346) Tryd.underlying23 ?_
   exact ⟨rR, bZ HB⟩
 ·replace c4 := Bool.eq_false_iff.mpr c4
  subst c4
  rw [if_neg (show ¬ (false = true) by decide)] at H
  simp only [Option.some.injEq, Prod.mk.injEq] at H
  obtain ⟨rfl, rfl, rfl⟩ := H
  go_enter Tryd.func59, Tryd.ntmps59
  go_wp2_with (first | ((with_reducible refine gate_dst (N := 2) rfl ?_); refine bE 2 #[.int .i64 a0_0, .int .i64 a0_1, .bool a0_2] 23 ?_; intro gb344 hg w33 hbox hb; have BK344 := Aside0.mk (hbox); have GW344 := bG HB hg; have GE344 := bG HB hg; replace HB := bS HB hb; clear hb hbox hg) | ((with_reducible refine gate_dst (N := 3) rfl ?_); refine bE 3 #[.int .i64 a1_0, .int .i64 a1_1, .bool a1_2] 23 ?_; intro gb345 hg w34 hbox hb; have BK345 := Aside0.mk (hbox); have GW345 := bG HB hg; have GE345 := bG HB hg; replace HB := bS HB hb; have NB344_345 := bL BK344 hg; have NB345_344 := bR BK344 hg; replace BK344 := bB BK344 hb; clear hb hbox hg) | ((with_reducible refine gate_dst (N := 4) rfl ?_); refine bE 4 #[.int .i64 0, .int .i64 0, .bool false] 23 ?_; intro gb346 hg w35 hbox hb; have BK346 := Aside0.mk (hbox); have GW346 := bG HB hg; have GE346 := bG HB hg; replace HB := bS HB hb; have NB344_346 := bL BK344 hg; have NB346_344 := bR BK344 hg; replace BK344 := bB BK344 hb; have NB345_346 := bL BK345 hg; have NB346_345 := bR BK345 hg; replace BK345 := bB BK345 hb; clear hb hbox hg; have hnb36 := NB344_345.out; have hnc36 := NB345_344.out; have hnb37 := NB344_346.out; have hnc37 := NB346_344.out; obtain ⟨hcz38_0, hcz38_1, hcz38_2, hfz38_0, hfz38_1, hfz38_2⟩ := bK3 (w := w35) BK344) | ((with_reducible refine gate_callee (f := 97) rfl ?_); refine gL (some 6) Tryd.func97 #[.agg #[.int .i64 a0_0, .int .i64 a0_1, .bool a0_2]] ?_; (with_reducible refine (impl_PointOk.calls a0_0 a0_1 a0_2 false _ A3.out).mono ?_); rintro e w39 ⟨rfl, hb⟩; refine ⟨_, rfl, ?_⟩; replace BK344 := bB BK344 hb; replace BK345 := bB BK345 hb; replace BK346 := bB BK346 hb; replace HB := bS HB hb; (try clear hb); have hnb40 := NB346_345.out; have hnc40 := NB345_346.out; obtain ⟨hcz41_0, hcz41_1, hcz41_2, hfz41_0, hfz41_1, hfz41_2⟩ := bK3 (w := w39) BK346))
  refine rC gb346 23 #[.int .i64 0, .int .i64 0, .bool true] (bU BK346) Tryd.underlying23 ?_
  exact ⟨rR, bZ HB⟩
/-! ### bits_Len64: function 144 -/
def bits_Len64.j0 : Nat → Int → Int → Option (Int)
 | 0, _, _ => none
 | k + 1, x0, x2 => if x0 ≥ 65536 then (if (x0 / 65536) ≥ 256 then (if 0 ≤ (((x0 / 65536) / 256) % 256) then (if (((x0 / 65536) / 256) % 256) < 256 then (some (wrap64 ((wrap64 ((wrap64 (x2 + 16)) + 8)) + (wrap64 (bt (⟨#[0, 1, 2, 2, 3, 3, 3, 3, 4, 4, 4, 4, 4, 4, 4, 4, 5, 5, 5, 5, 5, 5, 5, 5, 5, 5, 5, 5, 5, 5, 5, 5, 6, 6, 6, 6, 6, 6, 6, 6, 6, 6, 6, 6, 6, 6, 6, 6, 6, 6, 6, 6, 6, 6, 6, 6, 6, 6, 6, 6, 6, 6, 6, 6, 7, 7, 7, 7, 7, 7, 7, 7, 7, 7, 7, 7, 7, 7, 7, 7, 7, 7, 7, 7, 7, 7, 7, 7, 7, 7, 7, 7, 7, 7, 7, 7, 7, 7, 7, 7, 7, 7, 7, 7, 7, 7, 7, 7, 7, 7, 7, 7, 7, 7, 7, 7, 7, 7, 7, 7, 7, 7, 7, 7, 7, 7, 7, 7, 8, 8, 8, 8, 8, 8, 8, 8, 8, 8, 8, 8, 8, 8, 8, 8, 8, 8, 8, 8, 8, 8, 8, 8, 8, 8, 8, 8, 8, 8, 8, 8, 8, 8, 8, 8, 8, 8, 8, 8, 8, 8, 8, 8, 8, 8, 8, 8, 8, 8, 8, 8, 8, 8, 8, 8, 8, 8, 8, 8, 8, 8, 8, 8, 8, 8, 8, 8, 8, 8, 8, 8, 8, 8, 8, 8, 8, 8, 8, 8, 8, 8, 8, 8, 8, 8, 8, 8, 8, 8, 8, 8, 8, 8, 8, 8, 8, 8, 8, 8, 8, 8, 8, 8, 8, 8, 8, 8, 8, 8, 8, 8, 8, 8, 8, 8, 8, 8, 8, 8, 8, 8, 8, 8, 8, 8, 8, 8]⟩ : ByteArray) (((x0 / 65536) / 256) % 256)))))) else (none)) else (none)) else (if 0 ≤ ((x0 / 65536) % 256) then (if ((x0 / 65536) % 256) < 256 then (some (wrap64 ((wrap64 (x2 + 16)) + (wrap64 (bt (⟨#[0, 1, 2, 2, 3, 3, 3, 3, 4, 4, 4, 4, 4, 4, 4, 4, 5, 5, 5, 5, 5, 5, 5, 5, 5, 5, 5, 5, 5, 5, 5, 5, 6, 6, 6, 6, 6, 6, 6, 6, 6, 6, 6, 6, 6, 6, 6, 6, 6, 6, 6, 6, 6, 6, 6, 6, 6, 6, 6, 6, 6, 6, 6, 6, 7, 7, 7, 7, 7, 7, 7, 7, 7, 7, 7, 7, 7, 7, 7, 7, 7, 7, 7, 7, 7, 7, 7, 7, 7, 7, 7, 7, 7, 7, 7, 7, 7, 7, 7, 7, 7, 7, 7, 7, 7, 7, 7, 7, 7, 7, 7, 7, 7, 7, 7, 7, 7, 7, 7, 7, 7, 7, 7, 7, 7, 7, 7, 7, 8, 8, 8, 8, 8, 8, 8, 8, 8, 8, 8, 8, 8, 8, 8, 8, 8, 8, 8, 8, 8, 8, 8, 8, 8, 8, 8, 8, 8, 8, 8, 8, 8, 8, 8, 8, 8, 8, 8, 8, 8, 8, 8, 8, 8, 8, 8, 8, 8, 8, 8, 8, 8, 8, 8, 8, 8, 8, 8, 8, 8, 8, 8, 8, 8, 8, 8, 8, 8, 8, 8, 8, 8, 8, 8, 8, 8, 8, 8, 8, 8, 8, 8, 8, 8, 8, 8, 8, 8, 8, 8, 8, 8, 8, 8, 8, 8, 8, 8, 8, 8, 8, 8, 8, 8, 8, 8, 8, 8, 8, 8, 8, 8, 8, 8, 8, 8, 8, 8, 8, 8, 8, 8, 8, 8, 8, 8, 8]⟩ : ByteArray) ((x0 / 65536) % 256)))))) else (none)) else (none))) else (if x0 ≥ 256 then (if 0 ≤ ((x0 / 256) % 256) then (if ((x0 / 256) % 256) < 256 then (some (wrap64 ((wrap64 (x2 + 8)) + (wrap64 (bt (⟨#[0, 1, 2, 2, 3, 3, 3, 3, 4, 4, 4, 4, 4, 4, 4, 4, 5, 5, 5, 5, 5, 5, 5, 5, 5, 5, 5, 5, 5, 5, 5, 5, 6, 6, 6, 6, 6, 6, 6, 6, 6, 6, 6, 6, 6, 6, 6, 6, 6, 6, 6, 6, 6, 6, 6, 6, 6, 6, 6, 6, 6, 6, 6, 6, 7, 7, 7, 7, 7, 7, 7, 7, 7, 7, 7, 7, 7, 7, 7, 7, 7, 7, 7, 7, 7, 7, 7, 7, 7, 7, 7, 7, 7, 7, 7, 7, 7, 7, 7, 7, 7, 7, 7, 7, 7, 7, 7, 7, 7, 7, 7, 7, 7, 7, 7, 7, 7, 7, 7, 7, 7, 7, 7, 7, 7, 7, 7, 7, 8, 8, 8, 8, 8, 8, 8, 8, 8, 8, 8, 8, 8, 8, 8, 8, 8, 8, 8, 8, 8, 8, 8, 8, 8, 8, 8, 8, 8, 8, 8, 8, 8, 8, 8, 8, 8, 8, 8, 8, 8, 8, 8, 8, 8, 8, 8, 8, 8, 8, 8, 8, 8, 8, 8, 8, 8, 8, 8, 8, 8, 8, 8, 8, 8, 8, 8, 8, 8, 8, 8, 8, 8, 8, 8, 8, 8, 8, 8, 8, 8, 8, 8, 8, 8, 8, 8, 8, 8, 8, 8, 8, 8, 8, 8, 8, 8, 8, 8, 8, 8, 8, 8, 8, 8, 8, 8, 8, 8, 8, 8, 8, 8, 8, 8, 8, 8, 8, 8, 8, 8, 8, 8, 8, 8, 8, 8, 8]⟩ : ByteArray) ((x0 / 256) % 256)))))) else (none)) else (none)) else (if 0 ≤ ((x0) % 256) then (if ((x0) % 256) < 256 then (some (wrap64 (x2 + (wrap64 (bt (⟨#[0, 1, 2, 2, 3, 3, 3, 3, 4, 4, 4, 4, 4, 4, 4, 4, 5, 5, 5, 5, 5, 5, 5, 5, 5, 5, 5, 5, 5, 5, 5, 5, 6, 6, 6, 6, 6, 6, 6, 6, 6, 6, 6, 6, 6, 6, 6, 6, 6, 6, 6, 6, 6, 6, 6, 6, 6, 6, 6, 6, 6, 6, 6, 6, 7, 7, 7, 7, 7, 7, 7, 7, 7, 7, 7, 7, 7, 7, 7, 7, 7, 7, 7, 7, 7, 7, 7, 7, 7, 7, 7, 7, 7, 7, 7, 7, 7, 7, 7, 7, 7, 7, 7, 7, 7, 7, 7, 7, 7, 7, 7, 7, 7, 7, 7, 7, 7, 7, 7, 7, 7, 7, 7, 7, 7, 7, 7, 7, 8, 8, 8, 8, 8, 8, 8, 8, 8, 8, 8, 8, 8, 8, 8, 8, 8, 8, 8, 8, 8, 8, 8, 8, 8, 8, 8, 8, 8, 8, 8, 8, 8, 8, 8, 8, 8, 8, 8, 8, 8, 8, 8, 8, 8, 8, 8, 8, 8, 8, 8, 8, 8, 8, 8, 8, 8, 8, 8, 8, 8, 8, 8, 8, 8, 8, 8, 8, 8, 8, 8, 8, 8, 8, 8, 8, 8, 8, 8, 8, 8, 8, 8, 8, 8, 8, 8, 8, 8, 8, 8, 8, 8, 8, 8, 8, 8, 8, 8, 8, 8, 8, 8, 8, 8, 8, 8, 8, 8, 8, 8, 8, 8, 8, 8, 8, 8, 8, 8, 8, 8, 8, 8, 8, 8, 8, 8, 8]⟩ : ByteArray) ((x0) % 256)))))) else (none)) else (none)))
def bits_Len64.f (k : Nat) (a0 : Int) : Option (Int) := if a0 ≥ 4294967296 then (bits_Len64.j0 k (a0 / 4294967296) 32) else (bits_Len64.j0 k a0 0)
theorem bits_Len64.mono_l : ∀ k, (∀ y0 y1, LeO (bits_Len64.j0 k y0 y1) (bits_Len64.j0 (k + 1) y0 y1))
 | 0 => fun _ _ r h => by simp [bits_Len64.j0] at h
 | k + 1 => by
  have ih0 := bits_Len64.mono_l k
  ·intro y0 y1
   unfold bits_Len64.j0
   repeat' first
   | (with_reducible exact ih0 _ _)
   | (with_reducible exact LeO.refl _)
   | (with_reducible exact LeO.none _)
   | (with_reducible refine LeO.ite ?_ ?_)
   | (with_reducible refine LeO.bind ?_ (fun _ => ?_))
   | exact ih0 _ _
   | exact LeO.none _
   | refine LeO.ite ?_ ?_
   | refine LeO.bind ?_ (fun _ => ?_)
theorem bits_Len64.mono : ∀ a0 k, LeO (bits_Len64.f k a0) (bits_Len64.f (k + 1) a0) := by
 intro a0 k
 have ih0 := bits_Len64.mono_l k
 unfold bits_Len64.f
 repeat' first
   | (with_reducible exact ih0 _ _)
   | (with_reducible exact LeO.refl _)
   | (with_reducible exact LeO.none _)
   | (with_reducible refine LeO.ite ?_ ?_)
   | (with_reducible refine LeO.bind ?_ (fun _ => ?_))
   | exact ih0 _ _
   | exact LeO.none _
   | refine LeO.ite ?_ ?_
   | refine LeO.bind ?_ (fun _ => ?_)
set_option maxHeartbeats 8000000 in
set_option maxRecDepth 100000 in
theorem bits_Len64.calls (k : Nat) (a0 : Int) (r : Int) (w : World) (h : bits_Len64.f k a0 = some r) :
  Calls Tryd.prog 144 #[.int .u64 a0] w fun e w' => e = .returned (.int .i64 r) ∧ Drawn0 w w' := by
 have H : (if a0 ≥ 4294967296 then (bits_Len64.j0 k (a0 / 4294967296) 32) else (bits_Len64.j0 k a0 0)) = some r := h
 clear h
 have HC2 := Aside0.mk H
 clear H
 go_enter Tryd.func144, Tryd.ntmps144
 go_upto_if 4 with (fail)
 go_cut [0, 2] (fun v0 v2 wc => ∃ (kq : Nat) (x0_1 : Int) (x2_1 : Int), v0 = .int .u64 x0_1 ∧ v2 = .int .i64 x2_1 ∧ Aside0 (bits_Len64.j0 kq x0_1 x2_1 = some r) ∧ Aside0 (kq ≤ k) ∧ Drawn0 w wc)
 case first =>
  have H := HC2.out
  clear HC2
  by_cases c3 : a0 ≥ 4294967296
  ·rw [if_pos c3] at H
   have c3b0 : decide (4294967296 ≤ a0) = true := decide_eq_true c3
   clear c3
   (first | rw [c3b0] | (simp only [i64_w, i32_w]; rw [c3b0]) | rw [c3b1] | skip)
   have H' := Aside0.mk H
   clear H
   go_wp2
   go_meet
   case rel => exact ⟨_, (a0 / 4294967296), (32), rS, rS, H', ⟨by first | omega | exact Nat.le_refl _⟩, by repeat (first | exact Drawn0.refl _ | apply Drawn0.step)⟩
  ·rw [if_neg c3] at H
   have c3b0 : decide (4294967296 ≤ a0) = false := decide_eq_false c3
   clear c3
   (first | rw [c3b0] | (simp only [i64_w, i32_w]; rw [c3b0]) | rw [c3b1] | skip)
   have H' := Aside0.mk H
   clear H
   go_wp2
   go_meet
   case rel => exact ⟨_, (a0), (0), rS, rS, H', ⟨by first | omega | exact Nat.le_refl _⟩, by repeat (first | exact Drawn0.refl _ | apply Drawn0.step)⟩
 case rest =>
  clear HC2
  try clear c1
  try clear p2
  try clear c3
  try clear c3b0
  obtain ⟨kq, x0_1, x2_1, rfl, rfl, HA, HJ1, ⟨mc1, rfl⟩⟩ := hcut
  cases kq with
  | zero => exact absurd HA.out (by simp [bits_Len64.j0])
  | succ kj1 =>
   have H := HA.out
   clear HA
   simp only [bits_Len64.j0] at H
   by_cases c4 : x0_1 ≥ 65536
   ·rw [if_pos c4] at H
    have c4b0 : decide (65536 ≤ x0_1) = true := decide_eq_true c4
    clear c4
    by_cases c5 : (x0_1 / 65536) ≥ 256
    ·rw [if_pos c5] at H
     have c5b0 : decide (256 ≤ (x0_1 / 65536)) = true := decide_eq_true c5
     clear c5
     obtain ⟨ji6, hji6⟩ : ∃ j_ : Int, (((x0_1 / 65536) / 256) % 256) = j_ := ⟨_, rfl⟩
     replace H : (if 0 ≤ (ji6) then (if (ji6) < 256 then (some (wrap64 ((wrap64 ((wrap64 (x2_1 + 16)) + 8)) + (wrap64 (bt (⟨#[0, 1, 2, 2, 3, 3, 3, 3, 4, 4, 4, 4, 4, 4, 4, 4, 5, 5, 5, 5, 5, 5, 5, 5, 5, 5, 5, 5, 5, 5, 5, 5, 6, 6, 6, 6, 6, 6, 6, 6, 6, 6, 6, 6, 6, 6, 6, 6, 6, 6, 6, 6, 6, 6, 6, 6, 6, 6, 6, 6, 6, 6, 6, 6, 7, 7, 7, 7, 7, 7, 7, 7, 7, 7, 7, 7, 7, 7, 7, 7, 7, 7, 7, 7, 7, 7, 7, 7, 7, 7, 7, 7, 7, 7, 7, 7, 7, 7, 7, 7, 7, 7, 7, 7, 7, 7, 7, 7, 7, 7, 7, 7, 7, 7, 7, 7, 7, 7, 7, 7, 7, 7, 7, 7, 7, 7, 7, 7, 8, 8, 8, 8, 8, 8, 8, 8, 8, 8, 8, 8, 8, 8, 8, 8, 8, 8, 8, 8, 8, 8, 8, 8, 8, 8, 8, 8, 8, 8, 8, 8, 8, 8, 8, 8, 8, 8, 8, 8, 8, 8, 8, 8, 8, 8, 8, 8, 8, 8, 8, 8, 8, 8, 8, 8, 8, 8, 8, 8, 8, 8, 8, 8, 8, 8, 8, 8, 8, 8, 8, 8, 8, 8, 8, 8, 8, 8, 8, 8, 8, 8, 8, 8, 8, 8, 8, 8, 8, 8, 8, 8, 8, 8, 8, 8, 8, 8, 8, 8, 8, 8, 8, 8, 8, 8, 8, 8, 8, 8, 8, 8, 8, 8, 8, 8, 8, 8, 8, 8, 8, 8, 8, 8, 8, 8, 8, 8]⟩ : ByteArray) (ji6)))))) else (none)) else (none)) = some r := by first | (rw [hji6] at H; exact H) | (simp only [hji6] at H ⊢; exact H)
     by_cases c7 : 0 ≤ (ji6)
     ·rw [if_pos c7] at H
      have c7b0 : decide (0 ≤ (ji6)) = true := decide_eq_true c7
      clear c7
      by_cases c8 : (ji6) < 256
      ·rw [if_pos c8] at H
       have c8b0 : decide ((ji6) < 256) = true := decide_eq_true c8
       clear c8
       obtain rfl := Option.some.inj H
       have p9 : 0 ≤ ((ji6) : Int) := of_decide_eq_true (by first | (with_reducible assumption) | assumption)
       have q9 : (ji6) < (256 : Int) := of_decide_eq_true (by first | (with_reducible assumption) | assumption)
       have hx9 := bt_at (⟨#[0, 1, 2, 2, 3, 3, 3, 3, 4, 4, 4, 4, 4, 4, 4, 4, 5, 5, 5, 5, 5, 5, 5, 5, 5, 5, 5, 5, 5, 5, 5, 5, 6, 6, 6, 6, 6, 6, 6, 6, 6, 6, 6, 6, 6, 6, 6, 6, 6, 6, 6, 6, 6, 6, 6, 6, 6, 6, 6, 6, 6, 6, 6, 6, 7, 7, 7, 7, 7, 7, 7, 7, 7, 7, 7, 7, 7, 7, 7, 7, 7, 7, 7, 7, 7, 7, 7, 7, 7, 7, 7, 7, 7, 7, 7, 7, 7, 7, 7, 7, 7, 7, 7, 7, 7, 7, 7, 7, 7, 7, 7, 7, 7, 7, 7, 7, 7, 7, 7, 7, 7, 7, 7, 7, 7, 7, 7, 7, 8, 8, 8, 8, 8, 8, 8, 8, 8, 8, 8, 8, 8, 8, 8, 8, 8, 8, 8, 8, 8, 8, 8, 8, 8, 8, 8, 8, 8, 8, 8, 8, 8, 8, 8, 8, 8, 8, 8, 8, 8, 8, 8, 8, 8, 8, 8, 8, 8, 8, 8, 8, 8, 8, 8, 8, 8, 8, 8, 8, 8, 8, 8, 8, 8, 8, 8, 8, 8, 8, 8, 8, 8, 8, 8, 8, 8, 8, 8, 8, 8, 8, 8, 8, 8, 8, 8, 8, 8, 8, 8, 8, 8, 8, 8, 8, 8, 8, 8, 8, 8, 8, 8, 8, 8, 8, 8, 8, 8, 8, 8, 8, 8, 8, 8, 8, 8, 8, 8, 8, 8, 8, 8, 8, 8, 8, 8, 8]⟩ : ByteArray) (ji6)
       replace p9 := eq_true p9
       replace q9 := eq_true q9
       go_wp2
       go_ret
       exact ⟨by first | rfl | (simp; done) | (simp only [← hji6] <;> (first | rfl | simp)) | (simp [*]; done), by repeat (first | exact Drawn0.refl _ | apply Drawn0.step)⟩
      ·rw [if_neg c8] at H
       exact absurd H (by simp)
     ·rw [if_neg c7] at H
      exact absurd H (by simp)
    ·rw [if_neg c5] at H
     have c5b0 : decide (256 ≤ (x0_1 / 65536)) = false := decide_eq_false c5
     clear c5
     obtain ⟨ji10, hji10⟩ : ∃ j_ : Int, ((x0_1 / 65536) % 256) = j_ := ⟨_, rfl⟩
     replace H : (if 0 ≤ (ji10) then (if (ji10) < 256 then (some (wrap64 ((wrap64 (x2_1 + 16)) + (wrap64 (bt (⟨#[0, 1, 2, 2, 3, 3, 3, 3, 4, 4, 4, 4, 4, 4, 4, 4, 5, 5, 5, 5, 5, 5, 5, 5, 5, 5, 5, 5, 5, 5, 5, 5, 6, 6, 6, 6, 6, 6, 6, 6, 6, 6, 6, 6, 6, 6, 6, 6, 6, 6, 6, 6, 6, 6, 6, 6, 6, 6, 6, 6, 6, 6, 6, 6, 7, 7, 7, 7, 7, 7, 7, 7, 7, 7, 7, 7, 7, 7, 7, 7, 7, 7, 7, 7, 7, 7, 7, 7, 7, 7, 7, 7, 7, 7, 7, 7, 7, 7, 7, 7, 7, 7, 7, 7, 7, 7, 7, 7, 7, 7, 7, 7, 7, 7, 7, 7, 7, 7, 7, 7, 7, 7, 7, 7, 7, 7, 7, 7, 8, 8, 8, 8, 8, 8, 8, 8, 8, 8, 8, 8, 8, 8, 8, 8, 8, 8, 8, 8, 8, 8, 8, 8, 8, 8, 8, 8, 8, 8, 8, 8, 8, 8, 8, 8, 8, 8, 8, 8, 8, 8, 8, 8, 8, 8, 8, 8, 8, 8, 8, 8, 8, 8, 8, 8, 8, 8, 8, 8, 8, 8, 8, 8, 8, 8, 8, 8, 8, 8, 8, 8, 8, 8, 8, 8, 8, 8, 8, 8, 8, 8, 8, 8, 8, 8, 8, 8, 8, 8, 8, 8, 8, 8, 8, 8, 8, 8, 8, 8, 8, 8, 8, 8, 8, 8, 8, 8, 8, 8, 8, 8, 8, 8, 8, 8, 8, 8, 8, 8, 8, 8, 8, 8, 8, 8, 8, 8]⟩ : ByteArray) (ji10)))))) else (none)) else (none)) = some r := by first | (rw [hji10] at H; exact H) | (simp only [hji10] at H ⊢; exact H)
     by_cases c11 : 0 ≤ (ji10)
     ·rw [if_pos c11] at H
      have c11b0 : decide (0 ≤ (ji10)) = true := decide_eq_true c11
      clear c11
      by_cases c12 : (ji10) < 256
      ·rw [if_pos c12] at H
       have c12b0 : decide ((ji10) < 256) = true := decide_eq_true c12
       clear c12
       obtain rfl := Option.some.inj H
       have p13 : 0 ≤ ((ji10) : Int) := of_decide_eq_true (by first | (with_reducible assumption) | assumption)
       have q13 : (ji10) < (256 : Int) := of_decide_eq_true (by first | (with_reducible assumption) | assumption)
       have hx13 := bt_at (⟨#[0, 1, 2, 2, 3, 3, 3, 3, 4, 4, 4, 4, 4, 4, 4, 4, 5, 5, 5, 5, 5, 5, 5, 5, 5, 5, 5, 5, 5, 5, 5, 5, 6, 6, 6, 6, 6, 6, 6, 6, 6, 6, 6, 6, 6, 6, 6, 6, 6, 6, 6, 6, 6, 6, 6, 6, 6, 6, 6, 6, 6, 6, 6, 6, 7, 7, 7, 7, 7, 7, 7, 7, 7, 7, 7, 7, 7, 7, 7, 7, 7, 7, 7, 7, 7, 7, 7, 7, 7, 7, 7, 7, 7, 7, 7, 7, 7, 7, 7, 7, 7, 7, 7, 7, 7, 7, 7, 7, 7, 7, 7, 7, 7, 7, 7, 7, 7, 7, 7, 7, 7, 7, 7, 7, 7, 7, 7, 7, 8, 8, 8, 8, 8, 8, 8, 8, 8, 8, 8, 8, 8, 8, 8, 8, 8, 8, 8, 8, 8, 8, 8, 8, 8, 8, 8, 8, 8, 8, 8, 8, 8, 8, 8, 8, 8, 8, 8, 8, 8, 8, 8, 8, 8, 8, 8, 8, 8, 8, 8, 8, 8, 8, 8, 8, 8, 8, 8, 8, 8, 8, 8, 8, 8, 8, 8, 8, 8, 8, 8, 8, 8, 8, 8, 8, 8, 8, 8, 8, 8, 8, 8, 8, 8, 8, 8, 8, 8, 8, 8, 8, 8, 8, 8, 8, 8, 8, 8, 8, 8, 8, 8, 8, 8, 8, 8, 8, 8, 8, 8, 8, 8, 8, 8, 8, 8, 8, 8, 8, 8, 8, 8, 8, 8, 8, 8, 8]⟩ : ByteArray) (ji10)
       replace p13 := eq_true p13
       replace q13 := eq_true q13
       go_wp2
       go_ret
       exact ⟨by first | rfl | (simp; done) | (simp only [← hji10] <;> (first | rfl | simp)) | (simp [*]; done), by repeat (first | exact Drawn0.refl _ | apply Drawn0.step)⟩
      ·rw [if_neg c12] at H
       exact absurd H (by simp)
     ·rw [if_neg c11] at H
      exact absurd H (by simp)
   ·rw [if_neg c4] at H
    have c4b0 : decide (65536 ≤ x0_1) = false := decide_eq_false c4
    clear c4
    by_cases c14 : x0_1 ≥ 256
    ·rw [if_pos c14] at H
     have c14b0 : decide (256 ≤ x0_1) = true := decide_eq_true c14
     clear c14
     obtain ⟨ji15, hji15⟩ : ∃ j_ : Int, ((x0_1 / 256) % 256) = j_ := ⟨_, rfl⟩
     replace H : (if 0 ≤ (ji15) then (if (ji15) < 256 then (some (wrap64 ((wrap64 (x2_1 + 8)) + (wrap64 (bt (⟨#[0, 1, 2, 2, 3, 3, 3, 3, 4, 4, 4, 4, 4, 4, 4, 4, 5, 5, 5, 5, 5, 5, 5, 5, 5, 5, 5, 5, 5, 5, 5, 5, 6, 6, 6, 6, 6, 6, 6, 6, 6, 6, 6, 6, 6, 6, 6, 6, 6, 6, 6, 6, 6, 6, 6, 6, 6, 6, 6, 6, 6, 6, 6, 6, 7, 7, 7, 7, 7, 7, 7, 7, 7, 7, 7, 7, 7, 7, 7, 7, 7, 7, 7, 7, 7, 7, 7, 7, 7, 7, 7, 7, 7, 7, 7, 7, 7, 7, 7, 7, 7, 7, 7, 7, 7, 7, 7, 7, 7, 7, 7, 7, 7, 7, 7, 7, 7, 7, 7, 7, 7, 7, 7, 7, 7, 7, 7, 7, 8, 8, 8, 8, 8, 8, 8, 8, 8, 8, 8, 8, 8, 8, 8, 8, 8, 8, 8, 8, 8, 8, 8, 8, 8, 8, 8, 8, 8, 8, 8, 8, 8, 8, 8, 8, 8, 8, 8, 8, 8, 8, 8, 8, 8, 8, 8, 8, 8, 8, 8, 8, 8, 8, 8, 8, 8, 8, 8, 8, 8, 8, 8, 8, 8, 8, 8, 8, 8, 8, 8, 8, 8, 8, 8, 8, 8, 8, 8, 8, 8, 8, 8, 8, 8, 8, 8, 8, 8, 8, 8, 8, 8, 8, 8, 8, 8, 8, 8, 8, 8, 8, 8, 8, 8, 8, 8, 8, 8, 8, 8, 8, 8, 8, 8, 8, 8, 8, 8, 8, 8, 8, 8, 8, 8, 8, 8, 8]⟩ : ByteArray) (ji15)))))) else (none)) else (none)) = some r := by first | (rw [hji15] at H; exact H) | (simp only [hji15] at H ⊢; exact H)
     by_cases c16 : 0 ≤ (ji15)
     ·rw [if_pos c16] at H
      have c16b0 : decide (0 ≤ (ji15)) = true := decide_eq_true c16
      clear c16
      by_cases c17 : (ji15) < 256
      ·rw [if_pos c17] at H
       have c17b0 : decide ((ji15) < 256) = true := decide_eq_true c17
       clear c17
       obtain rfl := Option.some.inj H
       have p18 : 0 ≤ ((ji15) : Int) := of_decide_eq_true (by first | (with_reducible assumption) | assumption)
       have q18 : (ji15) < (256 : Int) := of_decide_eq_true (by first | (with_reducible assumption) | assumption)
       have hx18 := bt_at (⟨#[0, 1, 2, 2, 3, 3, 3, 3, 4, 4, 4, 4, 4, 4, 4, 4, 5, 5, 5, 5, 5, 5, 5, 5, 5, 5, 5, 5, 5, 5, 5, 5, 6, 6, 6, 6, 6, 6, 6, 6, 6, 6, 6, 6, 6, 6, 6, 6, 6, 6, 6, 6, 6, 6, 6, 6, 6, 6, 6, 6, 6, 6, 6, 6, 7, 7, 7, 7, 7, 7, 7, 7, 7, 7, 7, 7, 7, 7, 7, 7, 7, 7, 7, 7, 7, 7, 7, 7, 7, 7, 7, 7, 7, 7, 7, 7, 7, 7, 7, 7, 7, 7, 7, 7, 7, 7, 7, 7, 7, 7, 7, 7, 7, 7, 7, 7, 7, 7, 7, 7, 7, 7, 7, 7, 7, 7, 7, 7, 8, 8, 8, 8, 8, 8, 8, 8, 8, 8, 8, 8, 8, 8, 8, 8, 8, 8, 8, 8, 8, 8, 8, 8, 8, 8, 8, 8, 8, 8, 8, 8, 8, 8, 8, 8, 8, 8, 8, 8, 8, 8, 8, 8, 8, 8, 8, 8, 8, 8, 8, 8, 8, 8, 8, 8, 8, 8, 8, 8, 8, 8, 8, 8, 8, 8, 8, 8, 8, 8, 8, 8, 8, 8, 8, 8, 8, 8, 8, 8, 8, 8, 8, 8, 8, 8, 8, 8, 8, 8, 8, 8, 8, 8, 8, 8, 8, 8, 8, 8, 8, 8, 8, 8, 8, 8, 8, 8, 8, 8, 8, 8, 8, 8, 8, 8, 8, 8, 8, 8, 8, 8, 8, 8, 8, 8, 8, 8]⟩ : ByteArray) (ji15)
       replace p18 := eq_true p18
       replace q18 := eq_true q18
       go_wp2
       go_ret
       exact ⟨by first | rfl | (simp; done) | (simp only [← hji15] <;> (first | rfl | simp)) | (simp [*]; done), by repeat (first | exact Drawn0.refl _ | apply Drawn0.step)⟩
      ·rw [if_neg c17] at H
       exact absurd H (by simp)
     ·rw [if_neg c16] at H
      exact absurd H (by simp)
    ·rw [if_neg c14] at H
     have c14b0 : decide (256 ≤ x0_1) = false := decide_eq_false c14
     clear c14
     obtain ⟨ji19, hji19⟩ : ∃ j_ : Int, ((x0_1) % 256) = j_ := ⟨_, rfl⟩
     replace H : (if 0 ≤ (ji19) then (if (ji19) < 256 then (some (wrap64 (x2_1 + (wrap64 (bt (⟨#[0, 1, 2, 2, 3, 3, 3, 3, 4, 4, 4, 4, 4, 4, 4, 4, 5, 5, 5, 5, 5, 5, 5, 5, 5, 5, 5, 5, 5, 5, 5, 5, 6, 6, 6, 6, 6, 6, 6, 6, 6, 6, 6, 6, 6, 6, 6, 6, 6, 6, 6, 6, 6, 6, 6, 6, 6, 6, 6, 6, 6, 6, 6, 6, 7, 7, 7, 7, 7, 7, 7, 7, 7, 7, 7, 7, 7, 7, 7, 7, 7, 7, 7, 7, 7, 7, 7, 7, 7, 7, 7, 7, 7, 7, 7, 7, 7, 7, 7, 7, 7, 7, 7, 7, 7, 7, 7, 7, 7, 7, 7, 7, 7, 7, 7, 7, 7, 7, 7, 7, 7, 7, 7, 7, 7, 7, 7, 7, 8, 8, 8, 8, 8, 8, 8, 8, 8, 8, 8, 8, 8, 8, 8, 8, 8, 8, 8, 8, 8, 8, 8, 8, 8, 8, 8, 8, 8, 8, 8, 8, 8, 8, 8, 8, 8, 8, 8, 8, 8, 8, 8, 8, 8, 8, 8, 8, 8, 8, 8, 8, 8, 8, 8, 8, 8, 8, 8, 8, 8, 8, 8, 8, 8, 8, 8, 8, 8, 8, 8, 8, 8, 8, 8, 8, 8, 8, 8, 8, 8, 8, 8, 8, 8, 8, 8, 8, 8, 8, 8, 8, 8, 8, 8, 8, 8, 8, 8, 8, 8, 8, 8, 8, 8, 8, 8, 8, 8, 8, 8, 8, 8, 8, 8, 8, 8, 8, 8, 8, 8, 8, 8, 8, 8, 8, 8, 8]⟩ : ByteArray) (ji19)))))) else (none)) else (none)) = some r := by first | (rw [hji19] at H; exact H) | (simp only [hji19] at H ⊢; exact H)
     by_cases c20 : 0 ≤ (ji19)
     ·rw [if_pos c20] at H
      have c20b0 : decide (0 ≤ (ji19)) = true := decide_eq_true c20
      clear c20
      by_cases c21 : (ji19) < 256
      ·rw [if_pos c21] at H
       have c21b0 : decide ((ji19) < 256) = true := decide_eq_true c21
       clear c21
       obtain rfl := Option.some.inj H
       have p22 : 0 ≤ ((ji19) : Int) := of_decide_eq_true (by first | (with_reducible assumption) | assumption)
       have q22 : (ji19) < (256 : Int) := of_decide_eq_true (by first | (with_reducible assumption) | assumption)
       have hx22 := bt_at (⟨#[0, 1, 2, 2, 3, 3, 3, 3, 4, 4, 4, 4, 4, 4, 4, 4, 5, 5, 5, 5, 5, 5, 5, 5, 5, 5, 5, 5, 5, 5, 5, 5, 6, 6, 6, 6, 6, 6, 6, 6, 6, 6, 6, 6, 6, 6, 6, 6, 6, 6, 6, 6, 6, 6, 6, 6, 6, 6, 6, 6, 6, 6, 6, 6, 7, 7, 7, 7, 7, 7, 7, 7, 7, 7, 7, 7, 7, 7, 7, 7, 7, 7, 7, 7, 7, 7, 7, 7, 7, 7, 7, 7, 7, 7, 7, 7, 7, 7, 7, 7, 7, 7, 7, 7, 7, 7, 7, 7, 7, 7, 7, 7, 7, 7, 7, 7, 7, 7, 7, 7, 7, 7, 7, 7, 7, 7, 7, 7, 8, 8, 8, 8, 8, 8, 8, 8, 8, 8, 8, 8, 8, 8, 8, 8, 8, 8, 8, 8, 8, 8, 8, 8, 8, 8, 8, 8, 8, 8, 8, 8, 8, 8, 8, 8, 8, 8, 8, 8, 8, 8, 8, 8, 8, 8, 8, 8, 8, 8, 8, 8, 8, 8, 8, 8, 8, 8, 8, 8, 8, 8, 8, 8, 8, 8, 8, 8, 8, 8, 8, 8, 8, 8, 8, 8, 8, 8, 8, 8, 8, 8, 8, 8, 8, 8, 8, 8, 8, 8, 8, 8, 8, 8, 8, 8, 8, 8, 8, 8, 8, 8, 8, 8, 8, 8, 8, 8, 8, 8, 8, 8, 8, 8, 8, 8, 8, 8, 8, 8, 8, 8, 8, 8, 8, 8, 8, 8]⟩ : ByteArray) (ji19)
       replace p22 := eq_true p22
       replace q22 := eq_true q22
       go_wp2
       go_ret
       exact ⟨by first | rfl | (simp; done) | (simp only [← hji19] <;> (first | rfl | simp)) | (simp [*]; done), by repeat (first | exact Drawn0.refl _ | apply Drawn0.step)⟩
      ·rw [if_neg c21] at H
       exact absurd H (by simp)
     ·rw [if_neg c20] at H
      exact absurd H (by simp)
/-! ### bits_Len: function 132 -/
def bits_Len.f (k : Nat) (a0 : Int) : Option (Int) := (bits_Len64.f k a0).bind fun t623 => (some t623)
theorem bits_Len.mono : ∀ a0 k, LeO (bits_Len.f k a0) (bits_Len.f (k + 1) a0) := by
 intro a0 k
 unfold bits_Len.f
 repeat' first
   | (with_reducible exact bits_Len64.mono _ _)
   | (with_reducible exact LeO.refl _)
   | (with_reducible exact LeO.none _)
   | (with_reducible refine LeO.ite ?_ ?_)
   | (with_reducible refine LeO.bind ?_ (fun _ => ?_))
   | exact bits_Len64.mono _ _
   | exact LeO.none _
   | refine LeO.ite ?_ ?_
   | refine LeO.bind ?_ (fun _ => ?_)
set_option maxHeartbeats 8000000 in
set_option maxRecDepth 100000 in
theorem bits_Len.calls (k : Nat) (a0 : Int) (r : Int) (w : World) (h : bits_Len.f k a0 = some r) :
  Calls Tryd.prog 132 #[.int .u64 a0] w fun e w' => e = .returned (.int .i64 r) ∧ Drawn0 w w' := by
 have H : ((bits_Len64.f k a0).bind fun t623 => (some t623)) = some r := h
 clear h
 replace H := Option.bind_eq_some_iff.mp H
 obtain ⟨t623, A20, H⟩ := H
 have A2 := Aside0.mk A20
 clear A20
 obtain rfl := Option.some.inj H
 go_enter Tryd.func132, Tryd.ntmps132
 go_wp2_with (first | ((with_reducible refine gate_callee (f := 144) rfl ?_); refine gL (some 7) Tryd.func144 #[.int .u64 a0] ?_; (with_reducible refine (bits_Len64.calls k a0 t623 _ A2.out).mono ?_); rintro e w' ⟨rfl, ⟨nd, rfl⟩⟩; refine ⟨_, rfl, ?_⟩))
 go_ret
 exact ⟨rS, rD⟩
/-! ### impl_PairLine: function 133 -/
def impl_PairLine.j0 : Nat → Bool → Int → Int → Bool → Int → Int → Bool → Int → Int → Bool → Int → Int → Option (Int × Int)
 | 0, _, _, _, _, _, _, _, _, _, _, _, _ => none
 | k + 1, x36, x625000, x625001, x625002, x626000, x626001, x626002, x627000, x627001, x627002, x629000, x629001 => if x36 = true then (some (x629000, x629001)) else ((impl_slopeOf.f k x625000 x625001 x625002 x626000 x626001 x626002).bind fun bt632 => (if bt632.2 = true then ((impl_FpSub.f 0 x627000).bind fun t634 => ((impl_FpSub.f t634 x625000).bind fun t635 => ((impl_FpSub.f 0 x625001).bind fun t636 => ((impl_FpMul.f bt632.1 t635).bind fun t637 => ((impl_FpSub.f t636 t637).bind fun t638 => (some (t638, x627001))))))) else (some (x629000, x629001))))
def impl_PairLine.f (k : Nat) (a0_0 : Int) (a0_1 : Int) (a0_2 : Bool) (a1_0 : Int) (a1_1 : Int) (a1_2 : Bool) (a2_0 : Int) (a2_1 : Int) (a2_2 : Bool) : Option (Int × Int) := if a0_2 = true then (impl_PairLine.j0 k true a0_0 a0_1 a0_2 a1_0 a1_1 a1_2 a2_0 a2_1 a2_2 1 0) else (if a1_2 = true then (impl_PairLine.j0 k true a0_0 a0_1 a0_2 a1_0 a1_1 a1_2 a2_0 a2_1 a2_2 1 0) else (if a2_2 = true then (impl_PairLine.j0 k true a0_0 a0_1 a0_2 a1_0 a1_1 a1_2 a2_0 a2_1 a2_2 1 0) else ((impl_PointOk.f a0_0 a0_1 a0_2).bind fun t629 => (if t629 = true then ((impl_PointOk.f a1_0 a1_1 a1_2).bind fun t630 => (if t630 = true then ((impl_PointOk.f a2_0 a2_1 a2_2).bind fun t631 => (impl_PairLine.j0 k (!t631) a0_0 a0_1 a0_2 a1_0 a1_1 a1_2 a2_0 a2_1 a2_2 1 0)) else (impl_PairLine.j0 k true a0_0 a0_1 a0_2 a1_0 a1_1 a1_2 a2_0 a2_1 a2_2 1 0))) else (impl_PairLine.j0 k true a0_0 a0_1 a0_2 a1_0 a1_1 a1_2 a2_0 a2_1 a2_2 1 0)))))
theorem impl_PairLine.mono_l : ∀ k, (∀ y0 y1 y2 y3 y4 y5 y6 y7 y8 y9 y10 y11, LeO (impl_PairLine.j0 k y0 y1 y2 y3 y4 y5 y6 y7 y8 y9 y10 y11) (impl_PairLine.j0 (k + 1) y0 y1 y2 y3 y4 y5 y6 y7 y8 y9 y10 y11))
 | 0 => fun _ _ _ _ _ _ _ _ _ _ _ _ r h => by simp [impl_PairLine.j0] at h
 | k + 1 => by
  have ih0 := impl_PairLine.mono_l k
  ·intro y0 y1 y2 y3 y4 y5 y6 y7 y8 y9 y10 y11
   unfold impl_PairLine.j0
   repeat' first
   | (with_reducible exact ih0 _ _ _ _ _ _ _ _ _ _ _ _)
   | (with_reducible exact impl_slopeOf.mono _ _ _ _ _ _ _)
   | (with_reducible exact LeO.refl _)
   | (with_reducible exact LeO.none _)
   | (with_reducible refine LeO.ite ?_ ?_)
   | (with_reducible refine LeO.bind ?_ (fun _ => ?_))
   | exact ih0 _ _ _ _ _ _ _ _ _ _ _ _
   | exact impl_slopeOf.mono _ _ _ _ _ _ _
   | exact LeO.none _
   | refine LeO.ite ?_ ?_
   | refine LeO.bind ?_ (fun _ => ?_)
theorem impl_PairLine.mono : ∀ a0 a1 a2 a3 a4 a5 a6 a7 a8 k, LeO (impl_PairLine.f k a0 a1 a2 a3 a4 a5 a6 a7 a8) (impl_PairLine.f (k + 1) a0 a1 a2 a3 a4 a5 a6 a7 a8) := by
 intro a0 a1 a2 a3 a4 a5 a6 a7 a8 k
 have ih0 := impl_PairLine.mono_l k
 unfold impl_PairLine.f
 repeat' first
   | (with_reducible exact ih0 _ _ _ _ _ _ _ _ _ _ _ _)
   | (with_reducible exact impl_slopeOf.mono _ _ _ _ _ _ _)
   | (with_reducible exact LeO.refl _)
   | (with_reducible exact LeO.none _)
   | (with_reducible refine LeO.ite ?_ ?_)
   | (with_reducible refine LeO.bind ?_ (fun _ => ?_))
   | exact ih0 _ _ _ _ _ _ _ _ _ _ _ _
   | exact impl_slopeOf.mono _ _ _ _ _ _ _
   | exact LeO.none _
   | refine LeO.ite ?_ ?_
   | refine LeO.bind ?_ (fun _ => ?_)
def impl_PairLine.T8 : Bool × List (List Nat × List Nat) := (true, [([], []), ([0], [0]), ([1], [1]), ([], []), ([], []), ([3, 4, 2], [3, 4]), ([2, 5, 5], [2, 5]), ([], []), ([7], [7]), ([6, 8], [6, 8]), ([9, 6, 0, 1, 2, 3, 4, 5, 6, 7, 8, 9], [9])])
def impl_PairLine.B8 : List Nat := [0, 1, 3, 0, 0, 31, 63, 0, 128, 511, 1023]
theorem impl_PairLine.tab8 : rtab .any (opsOf Tryd.f133 8) = impl_PairLine.T8 := by kernel_rfl
theorem impl_PairLine.bits8 : waitsOk impl_PairLine.T8.2 impl_PairLine.B8 = true := by kernel_rfl
set_option maxHeartbeats 8000000 in
set_option maxRecDepth 100000 in
theorem impl_PairLine.calls (k : Nat) (a0_0 : Int) (a0_1 : Int) (a0_2 : Bool) (a1_0 : Int) (a1_1 : Int) (a1_2 : Bool) (a2_0 : Int) (a2_1 : Int) (a2_2 : Bool) (r1 : Int) (r2 : Int) (w : World) (h : impl_PairLine.f k a0_0 a0_1 a0_2 a1_0 a1_1 a1_2 a2_0 a2_1 a2_2 = some (r1, r2)) :
  Calls Tryd.prog 133 #[.agg #[.int .i64 a0_0, .int .i64 a0_1, .bool a0_2], .agg #[.int .i64 a1_0, .int .i64 a1_1, .bool a1_2], .agg #[.int .i64 a2_0, .int .i64 a2_1, .bool a2_2]] w fun e w' => e = .returned (.agg #[.int .i64 r1, .int .i64 r2]) ∧ Below w.heap.size w w' := by
 have hu23 := Tryd.underlying23
 have hu80 := Tryd.underlying80
 have HB := Aside0.mk (Below.refl w.heap.size w)
 have H : (if a0_2 = true then (impl_PairLine.j0 k true a0_0 a0_1 a0_2 a1_0 a1_1 a1_2 a2_0 a2_1 a2_2 1 0) else (if a1_2 = true then (impl_PairLine.j0 k true a0_0 a0_1 a0_2 a1_0 a1_1 a1_2 a2_0 a2_1 a2_2 1 0) else (if a2_2 = true then (impl_PairLine.j0 k true a0_0 a0_1 a0_2 a1_0 a1_1 a1_2 a2_0 a2_1 a2_2 1 0) else ((impl_PointOk.f a0_0 a0_1 a0_2).bind fun t629 => (if t629 = true then ((impl_PointOk.f a1_0 a1_1 a1_2).bind fun t630 => (if t630 = true then ((impl_PointOk.f a2_0 a2_1 a2_2).bind fun t631 => (impl_PairLine.j0 k (!t631) a0_0 a0_1 a0_2 a1_0 a1_1 a1_2 a2_0 a2_1 a2_2 1 0)) else (impl_PairLine.j0 k true a0_0 a0_1 a0_2 a1_0 a1_1 a1_2 a2_0 a2_1 a2_2 1 0))) else (impl_PairLine.j0 k true a0_0 a0_1 a0_2 a1_0 a1_1 a1_2 a2_0 a2_1 a2_2 1 0)))))) = some (r1, r2) := h
 clear h
 have HC4 := Aside0.mk H
 clear H
 go_enter Tryd.func133, Tryd.ntmps133
 go_upto_region 2 with (first | ((with_reducible refine gate_dst (N := 3) rfl ?_); refine bE 3 #[.int .i64 a0_0, .int .i64 a0_1, .bool a0_2] 23 ?_; intro gb624 hg w5 hbox hb; have BK624 := Aside0.mk (hbox); have GW624 := bG HB hg; have GE624 := bG HB hg; replace HB := bS HB hb; clear hb hbox hg) | ((with_reducible refine gate_dst (N := 4) rfl ?_); refine bE 4 #[.int .i64 a1_0, .int .i64 a1_1, .bool a1_2] 23 ?_; intro gb625 hg w6 hbox hb; have BK625 := Aside0.mk (hbox); have GW625 := bG HB hg; have GE625 := bG HB hg; replace HB := bS HB hb; have NB624_625 := bL BK624 hg; have NB625_624 := bR BK624 hg; replace BK624 := bB BK624 hb; clear hb hbox hg) | ((with_reducible refine gate_dst (N := 5) rfl ?_); refine bE 5 #[.int .i64 a2_0, .int .i64 a2_1, .bool a2_2] 23 ?_; intro gb626 hg w7 hbox hb; have BK626 := Aside0.mk (hbox); have GW626 := bG HB hg; have GE626 := bG HB hg; replace HB := bS HB hb; have NB624_626 := bL BK624 hg; have NB626_624 := bR BK624 hg; replace BK624 := bB BK624 hb; have NB625_626 := bL BK625 hg; have NB626_625 := bR BK625 hg; replace BK625 := bB BK625 hb; clear hb hbox hg) | ((with_reducible refine gate_dst (N := 6) rfl ?_); refine bE 6 #[.int .i64 0, .int .i64 0] 80 ?_; intro gb627 hg w8 hbox hb; have BK627 := Aside0.mk (hbox); have GW627 := bG HB hg; have GE627 := bG HB hg; replace HB := bS HB hb; have NB624_627 := bL BK624 hg; have NB627_624 := bR BK624 hg; replace BK624 := bB BK624 hb; have NB625_627 := bL BK625 hg; have NB627_625 := bR BK625 hg; replace BK625 := bB BK625 hb; have NB626_627 := bL BK626 hg; have NB627_626 := bR BK626 hg; replace BK626 := bB BK626 hb; clear hb hbox hg) | ((with_reducible refine gate_dst (N := 7) rfl ?_); refine bE 7 #[.int .i64 0, .int .i64 0] 80 ?_; intro gb628 hg w9 hbox hb; have BK628 := Aside0.mk (hbox); have GW628 := bG HB hg; have GE628 := bG HB hg; replace HB := bS HB hb; have NB624_628 := bL BK624 hg; have NB628_624 := bR BK624 hg; replace BK624 := bB BK624 hb; have NB625_628 := bL BK625 hg; have NB628_625 := bR BK625 hg; replace BK625 := bB BK625 hb; have NB626_628 := bL BK626 hg; have NB628_626 := bR BK626 hg; replace BK626 := bB BK626 hb; have NB627_628 := bL BK627 hg; have NB628_627 := bR BK627 hg; replace BK627 := bB BK627 hb; clear hb hbox hg; have hnb10 := NB628_624.out; have hnc10 := NB624_628.out; have hnb11 := NB628_625.out; have hnc11 := NB625_628.out; have hnb12 := NB628_626.out; have hnc12 := NB626_628.out; have hnb13 := NB628_627.out; have hnc13 := NB627_628.out; obtain ⟨hcz14_0, hcz14_1, hfz14_0, hfz14_1⟩ := bK2 (w := w9) BK628))
 (try simp only [Act.put, List.setIfInBounds_toArray, List.set_cons_zero, List.set_cons_succ])
 go_cut [36] (fun v36 wc => ∃ (kq : Nat) (x36_3 : Bool), v36 = .bool x36_3 ∧ Aside0 (impl_PairLine.j0 kq x36_3 a0_0 a0_1 a0_2 a1_0 a1_1 a1_2 a2_0 a2_1 a2_2 1 0 = some (r1, r2)) ∧ Aside0 (kq ≤ k) ∧ Aside0 (wc.heap[gb624]? = some (.cells #[.int .i64 a0_0, .int .i64 a0_1, .bool a0_2] 23 (0, 0))) ∧ Aside0 (wc.heap[gb625]? = some (.cells #[.int .i64 a1_0, .int .i64 a1_1, .bool a1_2] 23 (0, 0))) ∧ Aside0 (wc.heap[gb626]? = some (.cells #[.int .i64 a2_0, .int .i64 a2_1, .bool a2_2] 23 (0, 0))) ∧ Aside0 (wc.heap[gb627]? = some (.cells #[.int .i64 0, .int .i64 0] 80 (0, 0))) ∧ Aside0 (wc.heap[gb628]? = some (.cells #[.int .i64 1, .int .i64 0] 80 (0, 0))) ∧ Aside0 (Below w.heap.size w wc))
 case first =>
  have H := HC4.out
  clear HC4
  by_cases c15 : a0_2 = true
  ·subst c15
   rw [if_pos rfl] at H
   have H' := Aside0.mk H
   clear H
   have hnb16 := NB624_625.out
   have hnc16 := NB625_624.out
   have hnb17 := NB624_626.out
   have hnc17 := NB626_624.out
   have hnb18 := NB624_627.out
   have hnc18 := NB627_624.out
   have hnb19 := NB624_628.out
   have hnc19 := NB628_624.out
   obtain ⟨hcz20_0, hcz20_1, hcz20_2, hfz20_0, hfz20_1, hfz20_2⟩ := bK3 (w := w9) BK624
   go_wp2
   go_meet
   case rel => exact ⟨_, (true), rS, H', ⟨by first | omega | exact Nat.le_refl _⟩, ⟨bP BK624⟩, ⟨bP BK625⟩, ⟨bP BK626⟩, ⟨bP BK627⟩, ⟨bU BK628⟩, ⟨bZ HB⟩⟩
  ·replace c15 := Bool.eq_false_iff.mpr c15
   subst c15
   rw [if_neg (show ¬ (false = true) by decide)] at H
   by_cases c21 : a1_2 = true
   ·subst c21
    rw [if_pos rfl] at H
    have H' := Aside0.mk H
    clear H
    have hnb22 := NB624_625.out
    have hnc22 := NB625_624.out
    have hnb23 := NB624_626.out
    have hnc23 := NB626_624.out
    have hnb24 := NB624_627.out
    have hnc24 := NB627_624.out
    have hnb25 := NB624_628.out
    have hnc25 := NB628_624.out
    obtain ⟨hcz26_0, hcz26_1, hcz26_2, hfz26_0, hfz26_1, hfz26_2⟩ := bK3 (w := w9) BK624
    have hnb27 := NB625_626.out
    have hnc27 := NB626_625.out
    have hnb28 := NB625_627.out
    have hnc28 := NB627_625.out
    have hnb29 := NB625_628.out
    have hnc29 := NB628_625.out
    obtain ⟨hcz30_0, hcz30_1, hcz30_2, hfz30_0, hfz30_1, hfz30_2⟩ := bK3 (w := w9) BK625
    go_wp2
    go_meet
    case rel => exact ⟨_, (true), rS, H', ⟨by first | omega | exact Nat.le_refl _⟩, ⟨bP BK624⟩, ⟨bP BK625⟩, ⟨bP BK626⟩, ⟨bP BK627⟩, ⟨bU BK628⟩, ⟨bZ HB⟩⟩
   ·replace c21 := Bool.eq_false_iff.mpr c21
    subst c21
    rw [if_neg (show ¬ (false = true) by decide)] at H
    by_cases c31 : a2_2 = true
    ·subst c31
     rw [if_pos rfl] at H
     have H' := Aside0.mk H
     clear H
     have hnb32 := NB624_625.out
     have hnc32 := NB625_624.out
     have hnb33 := NB624_626.out
     have hnc33 := NB626_624.out
     have hnb34 := NB624_627.out
     have hnc34 := NB627_624.out
     have hnb35 := NB624_628.out
     have hnc35 := NB628_624.out
     obtain ⟨hcz36_0, hcz36_1, hcz36_2, hfz36_0, hfz36_1, hfz36_2⟩ := bK3 (w := w9) BK624
     have hnb37 := NB625_626.out
     have hnc37 := NB626_625.out
     have hnb38 := NB625_627.out
     have hnc38 := NB627_625.out
     have hnb39 := NB625_628.out
     have hnc39 := NB628_625.out
     obtain ⟨hcz40_0, hcz40_1, hcz40_2, hfz40_0, hfz40_1, hfz40_2⟩ := bK3 (w := w9) BK625
     have hnb41 := NB626_627.out
     have hnc41 := NB627_626.out
     have hnb42 := NB626_628.out
     have hnc42 := NB628_626.out
     obtain ⟨hcz43_0, hcz43_1, hcz43_2, hfz43_0, hfz43_1, hfz43_2⟩ := bK3 (w := w9) BK626
     go_wp2
     go_meet
     case rel => exact ⟨_, (true), rS, H', ⟨by first | omega | exact Nat.le_refl _⟩, ⟨bP BK624⟩, ⟨bP BK625⟩, ⟨bP BK626⟩, ⟨bP BK627⟩, ⟨bU BK628⟩, ⟨bZ HB⟩⟩
    ·replace c31 := Bool.eq_false_iff.mpr c31
     subst c31
     rw [if_neg (show ¬ (false = true) by decide)] at H
     replace H := Option.bind_eq_some_iff.mp H
     obtain ⟨t629, A440, H⟩ := H
     have A44 := Aside0.mk A440
     clear A440
     by_cases c45 : t629 = true
     ·subst c45
      rw [if_pos rfl] at H
      replace H := Option.bind_eq_some_iff.mp H
      obtain ⟨t630, A460, H⟩ := H
      have A46 := Aside0.mk A460
      clear A460
      by_cases c47 : t630 = true
      ·subst c47
       rw [if_pos rfl] at H
       replace H := Option.bind_eq_some_iff.mp H
       obtain ⟨t631, A480, H⟩ := H
       have A48 := Aside0.mk A480
       clear A480
       have H' := Aside0.mk H
       clear H
       have hnb49 := NB624_625.out
       have hnc49 := NB625_624.out
       have hnb50 := NB624_626.out
       have hnc50 := NB626_624.out
       have hnb51 := NB624_627.out
       have hnc51 := NB627_624.out
       have hnb52 := NB624_628.out
       have hnc52 := NB628_624.out
       obtain ⟨hcz53_0, hcz53_1, hcz53_2, hfz53_0, hfz53_1, hfz53_2⟩ := bK3 (w := w9) BK624
       have hnb54 := NB625_626.out
       have hnc54 := NB626_625.out
       have hnb55 := NB625_627.out
       have hnc55 := NB627_625.out
       have hnb56 := NB625_628.out
       have hnc56 := NB628_625.out
       obtain ⟨hcz57_0, hcz57_1, hcz57_2, hfz57_0, hfz57_1, hfz57_2⟩ := bK3 (w := w9) BK625
       have hnb58 := NB626_627.out
       have hnc58 := NB627_626.out
       have hnb59 := NB626_628.out
       have hnc59 := NB628_626.out
       obtain ⟨hcz60_0, hcz60_1, hcz60_2, hfz60_0, hfz60_1, hfz60_2⟩ := bK3 (w := w9) BK626
       go_wp2_with (first | (go_at_call 97; (with_reducible refine (impl_PointOk.calls a0_0 a0_1 false true _ A44.out).mono ?_); rintro e w61 ⟨rfl, hb⟩; replace BK624 := bB BK624 hb; replace BK625 := bB BK625 hb; replace BK626 := bB BK626 hb; replace BK627 := bB BK627 hb; replace BK628 := bV 80 #[.int .i64 1, .int .i64 0] BK628 hb; replace HB := bS HB hb; (try clear hb); obtain ⟨hcz62_0, hcz62_1, hcz62_2, hfz62_0, hfz62_1, hfz62_2⟩ := bK3 (w := w61) BK625) | (go_at_call 97; (with_reducible refine (impl_PointOk.calls a1_0 a1_1 false true _ A46.out).mono ?_); rintro e w63 ⟨rfl, hb⟩; replace BK624 := bB BK624 hb; replace BK625 := bB BK625 hb; replace BK626 := bB BK626 hb; replace BK627 := bB BK627 hb; replace BK628 := bB BK628 hb; replace HB := bS HB hb; (try clear hb); obtain ⟨hcz64_0, hcz64_1, hcz64_2, hfz64_0, hfz64_1, hfz64_2⟩ := bK3 (w := w63) BK626) | (go_at_call 97; (with_reducible refine (impl_PointOk.calls a2_0 a2_1 false t631 _ A48.out).mono ?_); rintro e w65 ⟨rfl, hb⟩; replace BK624 := bB BK624 hb; replace BK625 := bB BK625 hb; replace BK626 := bB BK626 hb; replace BK627 := bB BK627 hb; replace BK628 := bB BK628 hb; replace HB := bS HB hb; (try clear hb)))
       go_meet
       case rel => exact ⟨_, (!t631), rS, H', ⟨by first | omega | exact Nat.le_refl _⟩, ⟨bP BK624⟩, ⟨bP BK625⟩, ⟨bP BK626⟩, ⟨bP BK627⟩, ⟨bP BK628⟩, ⟨bZ HB⟩⟩
      ·replace c47 := Bool.eq_false_iff.mpr c47
       subst c47
       rw [if_neg (show ¬ (false = true) by decide)] at H
       have H' := Aside0.mk H
       clear H
       have hnb66 := NB624_625.out
       have hnc66 := NB625_624.out
       have hnb67 := NB624_626.out
       have hnc67 := NB626_624.out
       have hnb68 := NB624_627.out
       have hnc68 := NB627_624.out
       have hnb69 := NB624_628.out
       have hnc69 := NB628_624.out
       obtain ⟨hcz70_0, hcz70_1, hcz70_2, hfz70_0, hfz70_1, hfz70_2⟩ := bK3 (w := w9) BK624
       have hnb71 := NB625_626.out
       have hnc71 := NB626_625.out
       have hnb72 := NB625_627.out
       have hnc72 := NB627_625.out
       have hnb73 := NB625_628.out
       have hnc73 := NB628_625.out
       obtain ⟨hcz74_0, hcz74_1, hcz74_2, hfz74_0, hfz74_1, hfz74_2⟩ := bK3 (w := w9) BK625
       have hnb75 := NB626_627.out
       have hnc75 := NB627_626.out
       have hnb76 := NB626_628.out
       have hnc76 := NB628_626.out
       obtain ⟨hcz77_0, hcz77_1, hcz77_2, hfz77_0, hfz77_1, hfz77_2⟩ := bK3 (w := w9) BK626
       go_wp2_with (first | (go_at_call 97; (with_reducible refine (impl_PointOk.calls a0_0 a0_1 false true _ A44.out).mono ?_); rintro e w78 ⟨rfl, hb⟩; replace BK624 := bB BK624 hb; replace BK625 := bB BK625 hb; replace BK626 := bB BK626 hb; replace BK627 := bB BK627 hb; replace BK628 := bV 80 #[.int .i64 1, .int .i64 0] BK628 hb; replace HB := bS HB hb; (try clear hb); obtain ⟨hcz79_0, hcz79_1, hcz79_2, hfz79_0, hfz79_1, hfz79_2⟩ := bK3 (w := w78) BK625) | (go_at_call 97; (with_reducible refine (impl_PointOk.calls a1_0 a1_1 false false _ A46.out).mono ?_); rintro e w80 ⟨rfl, hb⟩; replace BK624 := bB BK624 hb; replace BK625 := bB BK625 hb; replace BK626 := bB BK626 hb; replace BK627 := bB BK627 hb; replace BK628 := bB BK628 hb; replace HB := bS HB hb; (try clear hb)))
       go_meet
       case rel => exact ⟨_, (true), rS, H', ⟨by first | omega | exact Nat.le_refl _⟩, ⟨bP BK624⟩, ⟨bP BK625⟩, ⟨bP BK626⟩, ⟨bP BK627⟩, ⟨bP BK628⟩, ⟨bZ HB⟩⟩
     ·replace c45 := Bool.eq_false_iff.mpr c45
      subst c45
      rw [if_neg (show ¬ (false = true) by decide)] at H
      have H' := Aside0.mk H
      clear H
      have hnb81 := NB624_625.out
      have hnc81 := NB625_624.out
      have hnb82 := NB624_626.out
      have hnc82 := NB626_624.out
      have hnb83 := NB624_627.out
      have hnc83 := NB627_624.out
      have hnb84 := NB624_628.out
      have hnc84 := NB628_624.out
      obtain ⟨hcz85_0, hcz85_1, hcz85_2, hfz85_0, hfz85_1, hfz85_2⟩ := bK3 (w := w9) BK624
      have hnb86 := NB625_626.out
      have hnc86 := NB626_625.out
      have hnb87 := NB625_627.out
      have hnc87 := NB627_625.out
      have hnb88 := NB625_628.out
      have hnc88 := NB628_625.out
      obtain ⟨hcz89_0, hcz89_1, hcz89_2, hfz89_0, hfz89_1, hfz89_2⟩ := bK3 (w := w9) BK625
      have hnb90 := NB626_627.out
      have hnc90 := NB627_626.out
      have hnb91 := NB626_628.out
      have hnc91 := NB628_626.out
      obtain ⟨hcz92_0, hcz92_1, hcz92_2, hfz92_0, hfz92_1, hfz92_2⟩ := bK3 (w := w9) BK626
      go_wp2_with (first | (go_at_call 97; (with_reducible refine (impl_PointOk.calls a0_0 a0_1 false false _ A44.out).mono ?_); rintro e w93 ⟨rfl, hb⟩; replace BK624 := bB BK624 hb; replace BK625 := bB BK625 hb; replace BK626 := bB BK626 hb; replace BK627 := bB BK627 hb; replace BK628 := bV 80 #[.int .i64 1, .int .i64 0] BK628 hb; replace HB := bS HB hb; (try clear hb)))
      go_meet
      case rel => exact ⟨_, (true), rS, H', ⟨by first | omega | exact Nat.le_refl _⟩, ⟨bP BK624⟩, ⟨bP BK625⟩, ⟨bP BK626⟩, ⟨bP BK627⟩, ⟨bP BK628⟩, ⟨bZ HB⟩⟩
 case rest =>
  clear HC4
  try clear c1
  try clear c2
  try clear p2
  try clear c3
  try clear c4
  try clear c5
  try clear c6
  try clear c7
  try clear c8
  try clear c9
  try clear c10
  try clear c11
  try clear c12
  try clear c13
  try clear c15
  try clear c16
  try clear c17
  try clear c18
  try clear c19
  try clear c21
  try clear c22
  try clear c23
  try clear c24
  try clear c25
  try clear c27
  try clear c28
  try clear c29
  try clear c31
  try clear c32
  try clear c33
  try clear c34
  try clear c35
  try clear c37
  try clear c38
  try clear c39
  try clear c41
  try clear c42
  try clear c45
  try clear c47
  try clear c49
  try clear c50
  try clear c51
  try clear c52
  try clear c54
  try clear c55
  try clear c56
  try clear c58
  try clear c59
  try clear c66
  try clear c67
  try clear c68
  try clear c69
  try clear c71
  try clear c72
  try clear c73
  try clear c75
  try clear c76
  try clear c81
  try clear c82
  try clear c83
  try clear c84
  try clear c86
  try clear c87
  try clear c88
  try clear c90
  try clear c91
  try clear hcz14_0
  try clear hcz14_1
  try clear hcz20_0
  try clear hcz20_1
  try clear hcz20_2
  try clear hcz26_0
  try clear hcz26_1
  try clear hcz26_2
  try clear hcz30_0
  try clear hcz30_1
  try clear hcz30_2
  try clear hcz36_0
  try clear hcz36_1
  try clear hcz36_2
  try clear hcz40_0
  try clear hcz40_1
  try clear hcz40_2
  try clear hcz43_0
  try clear hcz43_1
  try clear hcz43_2
  try clear hcz53_0
  try clear hcz53_1
  try clear hcz53_2
  try clear hcz57_0
  try clear hcz57_1
  try clear hcz57_2
  try clear hcz60_0
  try clear hcz60_1
  try clear hcz60_2
  try clear hcz62_0
  try clear hcz62_1
  try clear hcz62_2
  try clear hcz64_0
  try clear hcz64_1
  try clear hcz64_2
  try clear hcz70_0
  try clear hcz70_1
  try clear hcz70_2
  try clear hcz74_0
  try clear hcz74_1
  try clear hcz74_2
  try clear hcz77_0
  try clear hcz77_1
  try clear hcz77_2
  try clear hcz79_0
  try clear hcz79_1
  try clear hcz79_2
  try clear hcz85_0
  try clear hcz85_1
  try clear hcz85_2
  try clear hcz89_0
  try clear hcz89_1
  try clear hcz89_2
  try clear hcz92_0
  try clear hcz92_1
  try clear hcz92_2
  try clear hfz14_0
  try clear hfz14_1
  try clear hfz20_0
  try clear hfz20_1
  try clear hfz20_2
  try clear hfz26_0
  try clear hfz26_1
  try clear hfz26_2
  try clear hfz30_0
  try clear hfz30_1
  try clear hfz30_2
  try clear hfz36_0
  try clear hfz36_1
  try clear hfz36_2
  try clear hfz40_0
  try clear hfz40_1
  try clear hfz40_2
  try clear hfz43_0
  try clear hfz43_1
  try clear hfz43_2
  try clear hfz53_0
  try clear hfz53_1
  try clear hfz53_2
  try clear hfz57_0
  try clear hfz57_1
  try clear hfz57_2
  try clear hfz60_0
  try clear hfz60_1
  try clear hfz60_2
  try clear hfz62_0
  try clear hfz62_1
  try clear hfz62_2
  try clear hfz64_0
  try clear hfz64_1
  try clear hfz64_2
  try clear hfz70_0
  try clear hfz70_1
  try clear hfz70_2
  try clear hfz74_0
  try clear hfz74_1
  try clear hfz74_2
  try clear hfz77_0
  try clear hfz77_1
  try clear hfz77_2
  try clear hfz79_0
  try clear hfz79_1
  try clear hfz79_2
  try clear hfz85_0
  try clear hfz85_1
  try clear hfz85_2
  try clear hfz89_0
  try clear hfz89_1
  try clear hfz89_2
  try clear hfz92_0
  try clear hfz92_1
  try clear hfz92_2
  obtain ⟨kq, x36_3, rfl, HA, HJ3, BK624, BK625, BK626, BK627, BK628, HB⟩ := hcut
  cases kq with
  | zero => exact absurd HA.out (by simp [impl_PairLine.j0])
  | succ kj3 =>
   have H := HA.out
   clear HA
   simp only [impl_PairLine.j0] at H
   by_cases c94 : x36_3 = true
   ·subst c94
    rw [if_pos rfl] at H
    simp only [Option.some.injEq, Prod.mk.injEq] at H
    obtain ⟨rfl, rfl⟩ := H
    have hnb95 := NB628_624.out
    have hnc95 := NB624_628.out
    have hnb96 := NB628_625.out
    have hnc96 := NB625_628.out
    have hnb97 := NB628_626.out
    have hnc97 := NB626_628.out
    have hnb98 := NB628_627.out
    have hnc98 := NB627_628.out
    obtain ⟨hcz99_0, hcz99_1, hfz99_0, hfz99_1⟩ := bK2 (w := wc) BK628
    have hnb100 := NB627_624.out
    have hnc100 := NB624_627.out
    have hnb101 := NB627_625.out
    have hnc101 := NB625_627.out
    have hnb102 := NB627_626.out
    have hnc102 := NB626_627.out
    obtain ⟨hcz103_0, hcz103_1, hfz103_0, hfz103_1⟩ := bK2 (w := wc) BK627
    go_wp2
    refine rC gb627 80 #[.int .i64 1, .int .i64 0] (bU BK627) Tryd.underlying80 ?_
    exact ⟨rR, bZ HB⟩
   ·replace c94 := Bool.eq_false_iff.mpr c94
    subst c94
    rw [if_neg (show ¬ (false = true) by decide)] at H
    replace H := Option.bind_eq_some_iff.mp H
    obtain ⟨⟨t632, t633⟩, A1040, H⟩ := H
    have A104 := Aside0.mk A1040
    clear A1040
    by_cases c105 : t633 = true
    ·subst c105
     rw [if_pos rfl] at H
     replace H := Option.bind_eq_some_iff.mp H
     obtain ⟨t634, A1060, H⟩ := H
     have A106 := Aside0.mk A1060
     clear A1060
     replace H := Option.bind_eq_some_iff.mp H
     obtain ⟨t635, A1070, H⟩ := H
     have A107 := Aside0.mk A1070
     clear A1070
     replace H := Option.bind_eq_some_iff.mp H
     obtain ⟨t636, A1080, H⟩ := H
     have A108 := Aside0.mk A1080
     clear A1080
     replace H := Option.bind_eq_some_iff.mp H
     obtain ⟨t637, A1090, H⟩ := H
     have A109 := Aside0.mk A1090
     clear A1090
     replace H := Option.bind_eq_some_iff.mp H
     obtain ⟨t638, A1100, H⟩ := H
     have A110 := Aside0.mk A1100
     clear A1100
     simp only [Option.some.injEq, Prod.mk.injEq] at H
     obtain ⟨rfl, rfl⟩ := H
     have hnb111 := NB624_625.out
     have hnc111 := NB625_624.out
     have hnb112 := NB624_626.out
     have hnc112 := NB626_624.out
     have hnb113 := NB624_627.out
     have hnc113 := NB627_624.out
     have hnb114 := NB624_628.out
     have hnc114 := NB628_624.out
     obtain ⟨hcz115_0, hcz115_1, hcz115_2, hfz115_0, hfz115_1, hfz115_2⟩ := bK3 (w := wc) BK624
     have hnb116 := NB625_626.out
     have hnc116 := NB626_625.out
     have hnb117 := NB625_627.out
     have hnc117 := NB627_625.out
     have hnb118 := NB625_628.out
     have hnc118 := NB628_625.out
     obtain ⟨hcz119_0, hcz119_1, hcz119_2, hfz119_0, hfz119_1, hfz119_2⟩ := bK3 (w := wc) BK625
     try go_wp2_with (first | ((with_reducible refine gate_callee (f := 125) rfl ?_); refine gL (some 41) Tryd.func125 #[.agg #[.int .i64 a0_0, .int .i64 a0_1, .bool a0_2], .agg #[.int .i64 a1_0, .int .i64 a1_1, .bool a1_2]] ?_; (with_reducible refine (impl_slopeOf.calls kj3 a0_0 a0_1 a0_2 a1_0 a1_1 a1_2 t632 true _ A104.out).mono ?_); rintro e w120 ⟨rfl, hb⟩; refine ⟨_, rfl, ?_⟩; replace BK624 := bB BK624 hb; replace BK625 := bB BK625 hb; replace BK626 := bB BK626 hb; replace BK627 := bB BK627 hb; replace BK628 := bB BK628 hb; replace HB := bS HB hb; (try clear hb)))
     replace BK624 := Aside0.mk (blk_drew BK624.out)
     replace BK625 := Aside0.mk (blk_drew BK625.out)
     replace BK626 := Aside0.mk (blk_drew BK626.out)
     replace BK627 := Aside0.mk (blk_drew BK627.out)
     replace BK628 := Aside0.mk (blk_drew BK628.out)
     replace HB := Aside0.mk (below_drew1 HB.out)
     refine start_ (n := 7) (S := fun w' => w'.cell? ⟨gb626, 0, none⟩ = some (.int .i64 a2_0) ∧ w'.cell? ⟨gb626, 1, none⟩ = some (.int .i64 a2_1) ∧ w'.cell? ⟨gb626, 2, none⟩ = some (.bool a2_2) ∧ w'.cell? ⟨gb624, 0, none⟩ = some (.int .i64 a0_0) ∧ w'.cell? ⟨gb624, 1, none⟩ = some (.int .i64 a0_1) ∧ w'.cell? ⟨gb624, 2, none⟩ = some (.bool a0_2)) (ds := []) #[false, false, false, false, false, false, false] (by kernel_rfl) rfl rfl ⟨bc BK626 0, bc BK626 1, bc BK626 2, bc BK624 0, bc BK624 1, bc BK624 2⟩ (fun hHeld => ?_)
     generalize w120.drew = w121 at BK624 BK625 BK626 BK627 BK628 HB hHeld ⊢
     refine pure_ (i := 0) (N := some 47) (v := ?_) (a' := ?_) #[true, false, false, false, false, false, false] rfl rfl (by kernel_rfl) (fun _ _ _ h => h) (Or.inl ⟨by rfl, ?_⟩) ?_ ?_
     rotate_left
     ·intro w'
      go_simp
      with_reducible rfl
     rotate_left
     ·simp only [Act.put, List.setIfInBounds_toArray, List.set_cons_zero, List.set_cons_succ, i64_w, i32_w]
      rfl
     refine pure_ (i := 3) (N := some 50) (v := ?_) (a' := ?_) #[true, false, false, true, false, false, false] rfl rfl (by kernel_rfl) (fun _ _ _ h => h) (Or.inl ⟨by rfl, ?_⟩) ?_ ?_
     rotate_left
     ·intro w'
      go_simp
      with_reducible rfl
     rotate_left
     ·simp only [Act.put, List.setIfInBounds_toArray, List.set_cons_zero, List.set_cons_succ, i64_w, i32_w]
      rfl
     refine take_ (i := 1) (N := some 48) (v := ?_) (a' := ?_) #[true, true, false, true, false, false, false] rfl rfl (by kernel_rfl) (fun _ _ _ h => h) (Or.inl ⟨by rfl, ?_⟩) hHeld ?_ ?_
     rotate_left
     ·rintro w' ⟨s0, s1, s2, s3, s4, s5⟩
      go_simp
      with_reducible rfl
     rotate_left
     ·simp only [Act.put, List.setIfInBounds_toArray, List.set_cons_zero, List.set_cons_succ, i64_w, i32_w]
      rfl
     refine take_ (i := 4) (N := some 51) (v := ?_) (a' := ?_) #[true, true, false, true, true, false, false] rfl rfl (by kernel_rfl) (fun _ _ _ h => h) (Or.inl ⟨by rfl, ?_⟩) hHeld ?_ ?_
     rotate_left
     ·rintro w' ⟨s0, s1, s2, s3, s4, s5⟩
      go_simp
      with_reducible rfl
     rotate_left
     ·simp only [Act.put, List.setIfInBounds_toArray, List.set_cons_zero, List.set_cons_succ, i64_w, i32_w]
      rfl
     refine one_ (i := 2) (N := some 49) #[true, true, true, true, true, false, false] rfl rfl (by kernel_rfl) (by decide) (fun K hK => ?_)
     refine gO Tryd.func126 #[.int .i64 0, .int .i64 a2_0] ?_
     with_reducible refine (impl_FpSub.calls 0 a2_0 t634 _ A106.out).mono ?_
     rintro e w' ⟨rfl, ⟨nd, rfl⟩⟩
     refine ⟨_, rfl, ?_⟩
     refine hK.out _ _ ⟨bc BK626 0, bc BK626 1, bc BK626 2, bc BK624 0, bc BK624 1, bc BK624 2⟩ (fun hHeld => ?_)
     clear hK K
     refine nO (some 49) ?_
     refine one_ (i := 5) (N := some 52) #[true, true, true, true, true, true, false] rfl rfl (by kernel_rfl) (by decide) (fun K hK => ?_)
     refine gO Tryd.func126 #[.int .i64 t634, .int .i64 a0_0] ?_
     with_reducible refine (impl_FpSub.calls t634 a0_0 t635 _ A107.out).mono ?_
     rintro e w' ⟨rfl, ⟨nd, rfl⟩⟩
     refine ⟨_, rfl, ?_⟩
     refine hK.out _ _ ⟨bc BK626 0, bc BK626 1, bc BK626 2, bc BK624 0, bc BK624 1, bc BK624 2⟩ (fun hHeld => ?_)
     clear hK K
     refine nO (some 52) ?_
     refine pure_ (i := 6) (N := some 10) (v := ?_) (a' := ?_) #[true, true, true, true, true, true, true] rfl rfl (by kernel_rfl) (fun _ _ _ h => h) (Or.inl ⟨by rfl, ?_⟩) ?_ ?_
     rotate_left
     ·intro w'
      go_simp
      with_reducible rfl
     rotate_left
     ·simp only [Act.put, List.setIfInBounds_toArray, List.set_cons_zero, List.set_cons_succ, i64_w, i32_w]
      rfl
     refine done_ (by kernel_rfl) ?_
     try go_wp2
     (try simp only [World.drewN_drewN]); (try (rw [drewN_self w121]; generalize hq_ : World.drewN w121 _ = w121; replace BK624 : Aside0 (w121.heap[gb624]? = some (.cells #[.int .i64 a0_0, .int .i64 a0_1, .bool a0_2] 23 (0, 0))) := ⟨by rw [← hq_]; exact (bP BK624)⟩; replace BK625 : Aside0 (w121.heap[gb625]? = some (.cells #[.int .i64 a1_0, .int .i64 a1_1, .bool a1_2] 23 (0, 0))) := ⟨by rw [← hq_]; exact (bP BK625)⟩; replace BK626 : Aside0 (w121.heap[gb626]? = some (.cells #[.int .i64 a2_0, .int .i64 a2_1, .bool a2_2] 23 (0, 0))) := ⟨by rw [← hq_]; exact (bP BK626)⟩; replace BK627 : Aside0 (w121.heap[gb627]? = some (.cells #[.int .i64 0, .int .i64 0] 80 (0, 0))) := ⟨by rw [← hq_]; exact (bP BK627)⟩; replace BK628 : Aside0 (w121.heap[gb628]? = some (.cells #[.int .i64 1, .int .i64 0] 80 (0, 0))) := ⟨by rw [← hq_]; exact (bP BK628)⟩; replace HB : Aside0 (Below w.heap.size w w121) := ⟨by rw [← hq_]; exact (bZ HB)⟩; clear hq_))
     replace BK624 := Aside0.mk (blk_drew BK624.out)
     replace BK625 := Aside0.mk (blk_drew BK625.out)
     replace BK626 := Aside0.mk (blk_drew BK626.out)
     replace BK627 := Aside0.mk (blk_drew BK627.out)
     replace BK628 := Aside0.mk (blk_drew BK628.out)
     replace HB := Aside0.mk (below_drew1 HB.out)
     refine start_ (n := 11) (S := fun w' => w'.cell? ⟨gb624, 0, none⟩ = some (.int .i64 a0_0) ∧ w'.cell? ⟨gb624, 1, none⟩ = some (.int .i64 a0_1) ∧ w'.cell? ⟨gb624, 2, none⟩ = some (.bool a0_2) ∧ w'.cell? ⟨gb626, 0, none⟩ = some (.int .i64 a2_0) ∧ w'.cell? ⟨gb626, 1, none⟩ = some (.int .i64 a2_1) ∧ w'.cell? ⟨gb626, 2, none⟩ = some (.bool a2_2)) (ds := []) #[false, false, false, false, false, false, false, false, false, false, false] (by kernel_rfl) rfl rfl ⟨bc BK624 0, bc BK624 1, bc BK624 2, bc BK626 0, bc BK626 1, bc BK626 2⟩ (fun hHeld => ?_); refine with_tabW impl_PairLine.tab8 impl_PairLine.bits8 (fun HT_ HW_ => ?_)
     generalize w121.drew = w122 at BK624 BK625 BK626 BK627 BK628 HB hHeld ⊢
     refine pI 0 (some 53) HT_.out ?_
     refine pI 3 (some 56) HT_.out ?_
     refine pI 4 (some 57) HT_.out ?_
     refine pI 7 (some 60) HT_.out ?_
     refine tI6 1 (some 54) HT_.out HW_.out hHeld ?_
     refine tI6 8 (some 61) HT_.out HW_.out hHeld ?_
     refine oI 2 (some 55) HT_.out (fun K hK => ?_)
     refine gO Tryd.func126 #[.int .i64 0, .int .i64 a0_1] ?_
     with_reducible refine (impl_FpSub.calls 0 a0_1 t636 _ A108.out).mono ?_
     rintro e w' ⟨rfl, ⟨nd, rfl⟩⟩
     refine ⟨_, rfl, ?_⟩
     refine hK.out _ _ ⟨bc BK624 0, bc BK624 1, bc BK624 2, bc BK626 0, bc BK626 1, bc BK626 2⟩ (fun hHeld => ?_)
     clear hK K
     refine nO (some 55) ?_
     refine oI 5 (some 58) HT_.out (fun K hK => ?_)
     refine gO Tryd.func95 #[.int .i64 t632, .int .i64 t635] ?_
     with_reducible refine (impl_FpMul.calls t632 t635 t637 _ A109.out).mono ?_
     rintro e w' ⟨rfl, ⟨nd, rfl⟩⟩
     refine ⟨_, rfl, ?_⟩
     refine hK.out _ _ ⟨bc BK624 0, bc BK624 1, bc BK624 2, bc BK626 0, bc BK626 1, bc BK626 2⟩ (fun hHeld => ?_)
     clear hK K
     refine nO (some 58) ?_
     refine oI 6 (some 59) HT_.out (fun K hK => ?_)
     refine gO Tryd.func126 #[.int .i64 t636, .int .i64 t637] ?_
     with_reducible refine (impl_FpSub.calls t636 t637 t638 _ A110.out).mono ?_
     rintro e w' ⟨rfl, ⟨nd, rfl⟩⟩
     refine ⟨_, rfl, ?_⟩
     refine hK.out _ _ ⟨bc BK624 0, bc BK624 1, bc BK624 2, bc BK626 0, bc BK626 1, bc BK626 2⟩ (fun hHeld => ?_)
     clear hK K
     refine nO (some 59) ?_
     refine pI 9 (some 62) HT_.out ?_
     refine oI 10 (none) HT_.out (fun K hK => ?_)
     have hs123 : w122.cell? ⟨gb627, 0, none⟩ = some (.int .i64 0) := bc BK627 0
     have hfs123 := blk_frozen BK627.out 0
     have hns123_0 := NB624_627.out
     have hns123_1 := NB625_627.out
     have hns123_2 := NB626_627.out
     have hns123_4 := NB628_627.out
     have hms123_0 := NB627_624.out
     have hms123_1 := NB627_625.out
     have hms123_2 := NB627_626.out
     have hms123_4 := NB627_628.out
     have hs124 : w122.cell? ⟨gb627, 1, none⟩ = some (.int .i64 0) := bc BK627 1
     have hfs124 := blk_frozen BK627.out 1
     have hns124_0 := NB624_627.out
     have hns124_1 := NB625_627.out
     have hns124_2 := NB626_627.out
     have hns124_4 := NB628_627.out
     have hms124_0 := NB627_624.out
     have hms124_1 := NB627_625.out
     have hms124_2 := NB627_626.out
     have hms124_4 := NB627_628.out
     refine skip_ (w1 := ?_) (by rfl) rfl ?_ ?_
     rotate_left
     ·go_simp
      rfl
     refine hK.out _ _ ⟨((cell_far (p := ⟨gb627, _, none⟩) NB624_627.out _).trans (((cell_far (p := ⟨gb627, _, none⟩) NB624_627.out _).trans (hHeld.1)))), ((cell_far (p := ⟨gb627, _, none⟩) NB624_627.out _).trans (((cell_far (p := ⟨gb627, _, none⟩) NB624_627.out _).trans (hHeld.2.1)))), ((cell_far (p := ⟨gb627, _, none⟩) NB624_627.out _).trans (((cell_far (p := ⟨gb627, _, none⟩) NB624_627.out _).trans (hHeld.2.2.1)))), ((cell_far (p := ⟨gb627, _, none⟩) NB626_627.out _).trans (((cell_far (p := ⟨gb627, _, none⟩) NB626_627.out _).trans (hHeld.2.2.2.1)))), ((cell_far (p := ⟨gb627, _, none⟩) NB626_627.out _).trans (((cell_far (p := ⟨gb627, _, none⟩) NB626_627.out _).trans (hHeld.2.2.2.2.1)))), ((cell_far (p := ⟨gb627, _, none⟩) NB626_627.out _).trans (((cell_far (p := ⟨gb627, _, none⟩) NB626_627.out _).trans (hHeld.2.2.2.2.2))))⟩ (fun hHeld => ?_)
     clear hK K
     refine done_ (done_of HT_.out (by kernel_rfl)) ?_
     try go_wp2
     refine rC gb627 80 #[.int .i64 t638, .int .i64 a2_1] (bU BK627) Tryd.underlying80 ?_
     exact ⟨rR, bZ HB⟩
    ·replace c105 := Bool.eq_false_iff.mpr c105
     subst c105
     rw [if_neg (show ¬ (false = true) by decide)] at H
     simp only [Option.some.injEq, Prod.mk.injEq] at H
     obtain ⟨rfl, rfl⟩ := H
     have hnb125 := NB624_625.out
     have hnc125 := NB625_624.out
     have hnb126 := NB624_626.out
     have hnc126 := NB626_624.out
     have hnb127 := NB624_627.out
     have hnc127 := NB627_624.out
     have hnb128 := NB624_628.out
     have hnc128 := NB628_624.out
     obtain ⟨hcz129_0, hcz129_1, hcz129_2, hfz129_0, hfz129_1, hfz129_2⟩ := bK3 (w := wc) BK624
     have hnb130 := NB625_626.out
     have hnc130 := NB626_625.out
     have hnb131 := NB625_627.out
     have hnc131 := NB627_625.out
     have hnb132 := NB625_628.out
     have hnc132 := NB628_625.out
     obtain ⟨hcz133_0, hcz133_1, hcz133_2, hfz133_0, hfz133_1, hfz133_2⟩ := bK3 (w := wc) BK625
     go_wp2_with (first | ((with_reducible refine gate_callee (f := 125) rfl ?_); refine gL (some 41) Tryd.func125 #[.agg #[.int .i64 a0_0, .int .i64 a0_1, .bool a0_2], .agg #[.int .i64 a1_0, .int .i64 a1_1, .bool a1_2]] ?_; (with_reducible refine (impl_slopeOf.calls kj3 a0_0 a0_1 a0_2 a1_0 a1_1 a1_2 t632 false _ A104.out).mono ?_); rintro e w134 ⟨rfl, hb⟩; refine ⟨_, rfl, ?_⟩; replace BK624 := bB BK624 hb; replace BK625 := bB BK625 hb; replace BK626 := bB BK626 hb; replace BK627 := bB BK627 hb; replace BK628 := bB BK628 hb; replace HB := bS HB hb; (try clear hb); have hnb135 := NB628_626.out; have hnc135 := NB626_628.out; have hnb136 := NB628_627.out; have hnc136 := NB627_628.out; obtain ⟨hcz137_0, hcz137_1, hfz137_0, hfz137_1⟩ := bK2 (w := w134) BK628; have hnb138 := NB627_626.out; have hnc138 := NB626_627.out; obtain ⟨hcz139_0, hcz139_1, hfz139_0, hfz139_1⟩ := bK2 (w := w134) BK627))
     refine rC gb627 80 #[.int .i64 1, .int .i64 0] (bU BK627) Tryd.underlying80 ?_
     exact ⟨rR, bZ HB⟩
/-! ### impl_Miller: function 107 -/
def impl_Miller.l0 : Nat → Int → Int → Int → Bool → Int → Int → Bool → Int → Int → Int → Int → Bool → Option (Int × Int)
 | 0, _, _, _, _, _, _, _, _, _, _, _, _ => none
 | k + 1, x7, x640000, x640001, x640002, x641000, x641001, x641002, x643000, x643001, x644000, x644001, x644002 => if x7 ≥ 0 then ((impl_TwoMul.f x643000 x643001 x643000 x643001).bind fun bt645 => ((impl_PairLine.f k x644000 x644001 x644002 x644000 x644001 x644002 x641000 x641001 x641002).bind fun bt647 => ((impl_TwoMul.f bt645.1 bt645.2 bt647.1 bt647.2).bind fun bt649 => ((impl_PointAdd.f k x644000 x644001 x644002 x644000 x644001 x644002).bind fun bt651 => (if 0 ≤ (IntKind.u64.wrap (x7)) then (if (Go.bits .and .i64 (shr .i64 1009 (IntKind.u64.wrap (x7))) 1) = 1 then ((impl_PairLine.f k bt651.1 bt651.2.1 bt651.2.2 x640000 x640001 x640002 x641000 x641001 x641002).bind fun bt654 => ((impl_TwoMul.f bt649.1 bt649.2 bt654.1 bt654.2).bind fun bt656 => ((impl_PointAdd.f k bt651.1 bt651.2.1 bt651.2.2 x640000 x640001 x640002).bind fun bt658 => (impl_Miller.l0 k (wrap64 (x7 - 1)) x640000 x640001 x640002 x641000 x641001 x641002 bt656.1 bt656.2 bt658.1 bt658.2.1 bt658.2.2)))) else (impl_Miller.l0 k (wrap64 (x7 - 1)) x640000 x640001 x640002 x641000 x641001 x641002 bt649.1 bt649.2 bt651.1 bt651.2.1 bt651.2.2)) else (none)))))) else (some (x643000, x643001))
def impl_Miller.f (k : Nat) (a0_0 : Int) (a0_1 : Int) (a0_2 : Bool) (a1_0 : Int) (a1_1 : Int) (a1_2 : Bool) : Option (Int × Int) := (bits_Len.f k 1009).bind fun t644 => (impl_Miller.l0 k (wrap64 (t644 - 2)) a0_0 a0_1 a0_2 a1_0 a1_1 a1_2 1 0 a0_0 a0_1 a0_2)
theorem impl_Miller.mono_l : ∀ k, (∀ y0 y1 y2 y3 y4 y5 y6 y7 y8 y9 y10 y11, LeO (impl_Miller.l0 k y0 y1 y2 y3 y4 y5 y6 y7 y8 y9 y10 y11) (impl_Miller.l0 (k + 1) y0 y1 y2 y3 y4 y5 y6 y7 y8 y9 y10 y11))
 | 0 => fun _ _ _ _ _ _ _ _ _ _ _ _ r h => by simp [impl_Miller.l0] at h
 | k + 1 => by
  have ih0 := impl_Miller.mono_l k
  ·intro y0 y1 y2 y3 y4 y5 y6 y7 y8 y9 y10 y11
   unfold impl_Miller.l0
   repeat' first
   | (with_reducible exact ih0 _ _ _ _ _ _ _ _ _ _ _ _)
   | (with_reducible exact bits_Len.mono _ _)
   | (with_reducible exact impl_PairLine.mono _ _ _ _ _ _ _ _ _ _)
   | (with_reducible exact impl_PointAdd.mono _ _ _ _ _ _ _)
   | (with_reducible exact LeO.refl _)
   | (with_reducible exact LeO.none _)
   | (with_reducible refine LeO.ite ?_ ?_)
   | (with_reducible refine LeO.bind ?_ (fun _ => ?_))
   | exact ih0 _ _ _ _ _ _ _ _ _ _ _ _
   | exact bits_Len.mono _ _
   | exact impl_PairLine.mono _ _ _ _ _ _ _ _ _ _
   | exact impl_PointAdd.mono _ _ _ _ _ _ _
   | exact LeO.none _
   | refine LeO.ite ?_ ?_
   | refine LeO.bind ?_ (fun _ => ?_)
theorem impl_Miller.mono : ∀ a0 a1 a2 a3 a4 a5 k, LeO (impl_Miller.f k a0 a1 a2 a3 a4 a5) (impl_Miller.f (k + 1) a0 a1 a2 a3 a4 a5) := by
 intro a0 a1 a2 a3 a4 a5 k
 have ih0 := impl_Miller.mono_l k
 unfold impl_Miller.f
 repeat' first
   | (with_reducible exact ih0 _ _ _ _ _ _ _ _ _ _ _ _)
   | (with_reducible exact bits_Len.mono _ _)
   | (with_reducible exact impl_PairLine.mono _ _ _ _ _ _ _ _ _ _)
   | (with_reducible exact impl_PointAdd.mono _ _ _ _ _ _ _)
   | (with_reducible exact LeO.refl _)
   | (with_reducible exact LeO.none _)
   | (with_reducible refine LeO.ite ?_ ?_)
   | (with_reducible refine LeO.bind ?_ (fun _ => ?_))
   | exact ih0 _ _ _ _ _ _ _ _ _ _ _ _
   | exact bits_Len.mono _ _
   | exact impl_PairLine.mono _ _ _ _ _ _ _ _ _ _
   | exact impl_PointAdd.mono _ _ _ _ _ _ _
   | exact LeO.none _
   | refine LeO.ite ?_ ?_
   | refine LeO.bind ?_ (fun _ => ?_)
def impl_Miller.T6 : Bool × List (List Nat × List Nat) := (true, [([], []), ([], []), ([0, 1], [0, 1]), ([], []), ([], []), ([], []), ([3, 4, 5, 2], [3, 4, 5]), ([2, 6, 6], [2, 6]), ([7, 7, 0, 1, 2, 3, 4, 5, 6, 7], [7])])
def impl_Miller.B6 : List Nat := [0, 0, 3, 0, 0, 0, 63, 127, 255]
theorem impl_Miller.tab6 : rtab .any (opsOf Tryd.f107 6) = impl_Miller.T6 := by kernel_rfl
theorem impl_Miller.bits6 : waitsOk impl_Miller.T6.2 impl_Miller.B6 = true := by kernel_rfl
set_option maxHeartbeats 8000000 in
set_option maxRecDepth 100000 in
theorem impl_Miller.calls (k : Nat) (a0_0 : Int) (a0_1 : Int) (a0_2 : Bool) (a1_0 : Int) (a1_1 : Int) (a1_2 : Bool) (r1 : Int) (r2 : Int) (w : World) (h : impl_Miller.f k a0_0 a0_1 a0_2 a1_0 a1_1 a1_2 = some (r1, r2)) :
  Calls Tryd.prog 107 #[.agg #[.int .i64 a0_0, .int .i64 a0_1, .bool a0_2], .agg #[.int .i64 a1_0, .int .i64 a1_1, .bool a1_2]] w fun e w' => e = .returned (.agg #[.int .i64 r1, .int .i64 r2]) ∧ Below w.heap.size w w' := by
 have hu23 := Tryd.underlying23
 have hu80 := Tryd.underlying80
 have HB := Aside0.mk (Below.refl w.heap.size w)
 have H : ((bits_Len.f k 1009).bind fun t644 => (impl_Miller.l0 k (wrap64 (t644 - 2)) a0_0 a0_1 a0_2 a1_0 a1_1 a1_2 1 0 a0_0 a0_1 a0_2)) = some (r1, r2) := h
 clear h
 replace H := Option.bind_eq_some_iff.mp H
 obtain ⟨t644, A30, H⟩ := H
 have A3 := Aside0.mk A30
 clear A30
 have H' := Aside0.mk H
 clear H
 go_enter Tryd.func107, Tryd.ntmps107
 go_wp2_with (first | ((with_reducible refine gate_dst (N := 2) rfl ?_); refine bE 2 #[.int .i64 a0_0, .int .i64 a0_1, .bool a0_2] 23 ?_; intro gb639 hg w4 hbox hb; have BK639 := Aside0.mk (hbox); have GW639 := bG HB hg; have GE639 := bG HB hg; replace HB := bS HB hb; clear hb hbox hg) | ((with_reducible refine gate_dst (N := 3) rfl ?_); refine bE 3 #[.int .i64 a1_0, .int .i64 a1_1, .bool a1_2] 23 ?_; intro gb640 hg w5 hbox hb; have BK640 := Aside0.mk (hbox); have GW640 := bG HB hg; have GE640 := bG HB hg; replace HB := bS HB hb; have NB639_640 := bL BK639 hg; have NB640_639 := bR BK639 hg; replace BK639 := bB BK639 hb; clear hb hbox hg) | ((with_reducible refine gate_dst (N := 4) rfl ?_); refine bE 4 #[.int .i64 0, .int .i64 0] 80 ?_; intro gb641 hg w6 hbox hb; have BK641 := Aside0.mk (hbox); have GW641 := bG HB hg; have GE641 := bG HB hg; replace HB := bS HB hb; have NB639_641 := bL BK639 hg; have NB641_639 := bR BK639 hg; replace BK639 := bB BK639 hb; have NB640_641 := bL BK640 hg; have NB641_640 := bR BK640 hg; replace BK640 := bB BK640 hb; clear hb hbox hg) | ((with_reducible refine gate_dst (N := 5) rfl ?_); refine bE 5 #[.int .i64 0, .int .i64 0] 80 ?_; intro gb642 hg w7 hbox hb; have BK642 := Aside0.mk (hbox); have GW642 := bG HB hg; have GE642 := bG HB hg; replace HB := bS HB hb; have NB639_642 := bL BK639 hg; have NB642_639 := bR BK639 hg; replace BK639 := bB BK639 hb; have NB640_642 := bL BK640 hg; have NB642_640 := bR BK640 hg; replace BK640 := bB BK640 hb; have NB641_642 := bL BK641 hg; have NB642_641 := bR BK641 hg; replace BK641 := bB BK641 hb; clear hb hbox hg; have hnb8 := NB642_639.out; have hnc8 := NB639_642.out; have hnb9 := NB642_640.out; have hnc9 := NB640_642.out; have hnb10 := NB642_641.out; have hnc10 := NB641_642.out; obtain ⟨hcz11_0, hcz11_1, hfz11_0, hfz11_1⟩ := bK2 (w := w7) BK642; have hnb12 := NB639_640.out; have hnc12 := NB640_639.out; have hnb13 := NB639_641.out; have hnc13 := NB641_639.out; obtain ⟨hcz14_0, hcz14_1, hcz14_2, hfz14_0, hfz14_1, hfz14_2⟩ := bK3 (w := w7) BK639) | ((with_reducible refine gate_dst (N := 6) rfl ?_); refine bE 6 #[.int .i64 0, .int .i64 0, .bool false] 23 ?_; intro gb643 hg w15 hbox hb; have BK643 := Aside0.mk (hbox); have GW643 := bG HB hg; have GE643 := bG HB hg; replace HB := bS HB hb; have NB639_643 := bL BK639 hg; have NB643_639 := bR BK639 hg; replace BK639 := bB BK639 hb; have NB640_643 := bL BK640 hg; have NB643_640 := bR BK640 hg; replace BK640 := bB BK640 hb; have NB641_643 := bL BK641 hg; have NB643_641 := bR BK641 hg; replace BK641 := bB BK641 hb; have NB642_643 := Aside0.mk ((by rw [hg]; exact Nat.ne_of_lt (blk_lt (g := gb642) (o := .cells #[.int .i64 1, .int .i64 0] 80 (0, 0)) (bU BK642)) : gb642 ≠ gb643)); have NB643_642 := Aside0.mk ((by rw [hg]; exact Nat.ne_of_gt (blk_lt (g := gb642) (o := .cells #[.int .i64 1, .int .i64 0] 80 (0, 0)) (bU BK642)) : gb643 ≠ gb642)); replace BK642 := bV 80 #[.int .i64 1, .int .i64 0] BK642 hb; clear hb hbox hg; have hnb16 := NB643_639.out; have hnc16 := NB639_643.out; have hnb17 := NB643_640.out; have hnc17 := NB640_643.out; have hnb18 := NB643_641.out; have hnc18 := NB641_643.out; have hnb19 := NB643_642.out; have hnc19 := NB642_643.out; obtain ⟨hcz20_0, hcz20_1, hcz20_2, hfz20_0, hfz20_1, hfz20_2⟩ := bK3 (w := w15) BK643) | ((with_reducible refine gate_callee (f := 132) rfl ?_); refine gL (some 10) Tryd.func132 #[.int .u64 1009] ?_; (with_reducible refine (bits_Len.calls k 1009 t644 _ A3.out).mono ?_); rintro e w' ⟨rfl, ⟨nd, rfl⟩⟩; refine ⟨_, rfl, ?_⟩))
 go_loopg [7] k (fun kq v7 w' => ∃ (x7_1 : Int) (x643000_1 : Int) (x643001_1 : Int) (x644000_1 : Int) (x644001_1 : Int) (x644002_1 : Bool), v7 = .int .i64 x7_1 ∧ Aside0 (impl_Miller.l0 kq x7_1 a0_0 a0_1 a0_2 a1_0 a1_1 a1_2 x643000_1 x643001_1 x644000_1 x644001_1 x644002_1 = some (r1, r2)) ∧ Aside0 (kq ≤ k) ∧ Aside0 (w'.heap[gb639]? = some (.cells #[.int .i64 a0_0, .int .i64 a0_1, .bool a0_2] 23 (0, 0))) ∧ Aside0 (w'.heap[gb640]? = some (.cells #[.int .i64 a1_0, .int .i64 a1_1, .bool a1_2] 23 (0, 0))) ∧ Aside0 (w'.heap[gb641]? = some (.cells #[.int .i64 0, .int .i64 0] 80 (0, 0))) ∧ Aside0 (w'.heap[gb642]? = some (.cells #[.int .i64 x643000_1, .int .i64 x643001_1] 80 (0, 0))) ∧ Aside0 (w'.heap[gb643]? = some (.cells #[.int .i64 x644000_1, .int .i64 x644001_1, .bool x644002_1] 23 (0, 0))) ∧ Aside0 (Below w.heap.size w w'))
 case atStart => exact ⟨(wrap64 (t644 - 2)), (1), (0), (a0_0), (a0_1), (a0_2), rS, H', ⟨Nat.le_refl _⟩, ⟨bP BK639⟩, ⟨bP BK640⟩, ⟨bP BK641⟩, ⟨bP BK642⟩, ⟨bU BK643⟩, ⟨bZ HB⟩⟩
 case round =>
  clear H'
  try clear c1
  try clear p2
  try clear p6
  try clear c8
  try clear c9
  try clear c10
  try clear c12
  try clear c13
  try clear c16
  try clear c17
  try clear c18
  try clear c19
  try clear hcz11_0
  try clear hcz11_1
  try clear hcz14_0
  try clear hcz14_1
  try clear hcz14_2
  try clear hcz20_0
  try clear hcz20_1
  try clear hcz20_2
  try clear hfz11_0
  try clear hfz11_1
  try clear hfz14_0
  try clear hfz14_1
  try clear hfz14_2
  try clear hfz20_0
  try clear hfz20_1
  try clear hfz20_2
  obtain ⟨x7_1, x643000_1, x643001_1, x644000_1, x644001_1, x644002_1, rfl, HA, HK1, BK639, BK640, BK641, BK642, BK643, HB⟩ := hrel
  cases gk with
  | zero => exact absurd HA.out (by simp [impl_Miller.l0])
  | succ k1 =>
   have H := HA.out
   clear HA
   simp only [impl_Miller.l0] at H
   by_cases c21 : x7_1 ≥ 0
   ·rw [if_pos c21] at H
    have c21b0 : decide (0 ≤ x7_1) = true := decide_eq_true c21
    clear c21
    replace H := Option.bind_eq_some_iff.mp H
    obtain ⟨⟨t645, t646⟩, A220, H⟩ := H
    have A22 := Aside0.mk A220
    clear A220
    replace H := Option.bind_eq_some_iff.mp H
    obtain ⟨⟨t647, t648⟩, A230, H⟩ := H
    have A23 := Aside0.mk A230
    clear A230
    replace H := Option.bind_eq_some_iff.mp H
    obtain ⟨⟨t649, t650⟩, A240, H⟩ := H
    have A24 := Aside0.mk A240
    clear A240
    replace H := Option.bind_eq_some_iff.mp H
    obtain ⟨⟨t651, t652, t653⟩, A250, H⟩ := H
    have A25 := Aside0.mk A250
    clear A250
    obtain ⟨ji26, hji26⟩ : ∃ j_ : Int, (IntKind.u64.wrap (x7_1)) = j_ := ⟨_, rfl⟩
    replace H : (if 0 ≤ (ji26) then (if (Go.bits .and .i64 (shr .i64 1009 (ji26)) 1) = 1 then ((impl_PairLine.f k1 t651 t652 t653 a0_0 a0_1 a0_2 a1_0 a1_1 a1_2).bind fun bt654 => ((impl_TwoMul.f t649 t650 bt654.1 bt654.2).bind fun bt656 => ((impl_PointAdd.f k1 t651 t652 t653 a0_0 a0_1 a0_2).bind fun bt658 => (impl_Miller.l0 k1 (wrap64 (x7_1 - 1)) a0_0 a0_1 a0_2 a1_0 a1_1 a1_2 bt656.1 bt656.2 bt658.1 bt658.2.1 bt658.2.2)))) else (impl_Miller.l0 k1 (wrap64 (x7_1 - 1)) a0_0 a0_1 a0_2 a1_0 a1_1 a1_2 t649 t650 t651 t652 t653)) else (none)) = some (r1, r2) := by first | (rw [hji26] at H; exact H) | (simp only [hji26] at H ⊢; exact H)
    (try rw [hji26] at A22)
    (try rw [hji26] at A23)
    (try rw [hji26] at A24)
    (try rw [hji26] at A25)
    by_cases c27 : 0 ≤ (ji26)
    ·rw [if_pos c27] at H
     have c27b0 := eq_true c27
     have c27b1 : decide (0 ≤ (ji26)) = true := decide_eq_true c27
     clear c27
     obtain ⟨ji28, hji28⟩ : ∃ j_ : Int, (shr .i64 1009 (ji26)) = j_ := ⟨_, rfl⟩
     replace H : (if (Go.bits .and .i64 (ji28) 1) = 1 then ((impl_PairLine.f k1 t651 t652 t653 a0_0 a0_1 a0_2 a1_0 a1_1 a1_2).bind fun bt654 => ((impl_TwoMul.f t649 t650 bt654.1 bt654.2).bind fun bt656 => ((impl_PointAdd.f k1 t651 t652 t653 a0_0 a0_1 a0_2).bind fun bt658 => (impl_Miller.l0 k1 (wrap64 (x7_1 - 1)) a0_0 a0_1 a0_2 a1_0 a1_1 a1_2 bt656.1 bt656.2 bt658.1 bt658.2.1 bt658.2.2)))) else (impl_Miller.l0 k1 (wrap64 (x7_1 - 1)) a0_0 a0_1 a0_2 a1_0 a1_1 a1_2 t649 t650 t651 t652 t653)) = some (r1, r2) := by first | (rw [hji28] at H; exact H) | (simp only [hji28] at H ⊢; exact H)
     (try rw [hji28] at A22)
     (try rw [hji28] at A23)
     (try rw [hji28] at A24)
     (try rw [hji28] at A25)
     have hji28_ : (1009 / 2 ^ min (ji26).toNat 64) = ji28 := hji28
     have hji28z : (ji26) ≤ 64 → (1009 / 2 ^ (ji26).toNat) = ji28 := shr_small hji28
     have hji28t : ∀ m_ : Int, Int.tmod ji28 m_ = ji28 % m_ := fun m_ => Int.tmod_eq_emod_of_nonneg (by rw [← hji28_]; exact Int.ediv_nonneg (by decide) (Int.le_of_lt (Int.pow_pos (by decide))))
     by_cases c29 : (Go.bits .and .i64 (ji28) 1) = 1
     ·rw [if_pos c29] at H
      have c29b0 : ((Go.bits .and .i64 (ji28) 1) == 1) = true := beq_iff_eq.mpr c29
      have c29b1 : ((Go.bits .and .i64 (ji28) 1) != 1) = false := bne_eq_false_iff_eq.mpr c29
      clear c29
      replace H := Option.bind_eq_some_iff.mp H
      obtain ⟨⟨t654, t655⟩, A300, H⟩ := H
      have A30 := Aside0.mk A300
      clear A300
      replace H := Option.bind_eq_some_iff.mp H
      obtain ⟨⟨t656, t657⟩, A310, H⟩ := H
      have A31 := Aside0.mk A310
      clear A310
      replace H := Option.bind_eq_some_iff.mp H
      obtain ⟨⟨t658, t659, t660⟩, A320, H⟩ := H
      have A32 := Aside0.mk A320
      clear A320
      have H' := Aside0.mk H
      clear H
      try go_wp2
      replace BK639 := Aside0.mk (blk_drew BK639.out)
      replace BK640 := Aside0.mk (blk_drew BK640.out)
      replace BK641 := Aside0.mk (blk_drew BK641.out)
      replace BK642 := Aside0.mk (blk_drew BK642.out)
      replace BK643 := Aside0.mk (blk_drew BK643.out)
      replace HB := Aside0.mk (below_drew1 HB.out)
      refine start_ (n := 9) (S := fun w' => w'.cell? ⟨gb642, 0, none⟩ = some (.int .i64 x643000_1) ∧ w'.cell? ⟨gb642, 1, none⟩ = some (.int .i64 x643001_1) ∧ w'.cell? ⟨gb643, 0, none⟩ = some (.int .i64 x644000_1) ∧ w'.cell? ⟨gb643, 1, none⟩ = some (.int .i64 x644001_1) ∧ w'.cell? ⟨gb643, 2, none⟩ = some (.bool x644002_1) ∧ w'.cell? ⟨gb640, 0, none⟩ = some (.int .i64 a1_0) ∧ w'.cell? ⟨gb640, 1, none⟩ = some (.int .i64 a1_1) ∧ w'.cell? ⟨gb640, 2, none⟩ = some (.bool a1_2)) (ds := [8]) #[false, false, false, false, false, false, false, false, false] (by kernel_rfl) rfl rfl ⟨bc BK642 0, bc BK642 1, bc BK643 0, bc BK643 1, bc BK643 2, bc BK640 0, bc BK640 1, bc BK640 2⟩ (fun hHeld => ?_); refine with_tabW impl_Miller.tab6 impl_Miller.bits6 (fun HT_ HW_ => ?_)
      generalize wr.drew = w33 at BK639 BK640 BK641 BK642 BK643 HB hHeld ⊢
      refine tI8 0 (some 16) HT_.out HW_.out hHeld ?_
      refine tI8 1 (some 17) HT_.out HW_.out hHeld ?_
      refine tI8 3 (some 19) HT_.out HW_.out hHeld ?_
      refine tI8 4 (some 20) HT_.out HW_.out hHeld ?_
      refine tI8 5 (some 21) HT_.out HW_.out hHeld ?_
      refine oI 2 (some 18) HT_.out (fun K hK => ?_)
      refine gO Tryd.func109 #[.agg #[.int .i64 x643000_1, .int .i64 x643001_1], .agg #[.int .i64 x643000_1, .int .i64 x643001_1]] ?_
      with_reducible refine (impl_TwoMul.calls x643000_1 x643001_1 x643000_1 x643001_1 t645 t646 _ A22.out).mono ?_
      rintro e w34 ⟨rfl, hb⟩
      refine ⟨_, rfl, ?_⟩
      replace BK639 := bB BK639 hb
      replace BK640 := bB BK640 hb
      replace BK641 := bB BK641 hb
      replace BK642 := bB BK642 hb
      replace BK643 := bB BK643 hb
      replace HB := bS HB hb
      (try clear hb)
      refine hK.out _ _ ⟨bc BK642 0, bc BK642 1, bc BK643 0, bc BK643 1, bc BK643 2, bc BK640 0, bc BK640 1, bc BK640 2⟩ (fun hHeld => ?_)
      clear hK K
      refine nO (some 18) ?_
      refine oI 6 (some 22) HT_.out (fun K hK => ?_)
      refine gO Tryd.func133 #[.agg #[.int .i64 x644000_1, .int .i64 x644001_1, .bool x644002_1], .agg #[.int .i64 x644000_1, .int .i64 x644001_1, .bool x644002_1], .agg #[.int .i64 a1_0, .int .i64 a1_1, .bool a1_2]] ?_
      with_reducible refine (impl_PairLine.calls k1 x644000_1 x644001_1 x644002_1 x644000_1 x644001_1 x644002_1 a1_0 a1_1 a1_2 t647 t648 _ A23.out).mono ?_
      rintro e w35 ⟨rfl, hb⟩
      refine ⟨_, rfl, ?_⟩
      replace BK639 := bB BK639 hb
      replace BK640 := bB BK640 hb
      replace BK641 := bB BK641 hb
      replace BK642 := bB BK642 hb
      replace BK643 := bB BK643 hb
      replace HB := bS HB hb
      (try clear hb)
      refine hK.out _ _ ⟨bc BK642 0, bc BK642 1, bc BK643 0, bc BK643 1, bc BK643 2, bc BK640 0, bc BK640 1, bc BK640 2⟩ (fun hHeld => ?_)
      clear hK K
      refine nO (some 22) ?_
      refine oI 7 (some 23) HT_.out (fun K hK => ?_)
      refine gO Tryd.func109 #[.agg #[.int .i64 t645, .int .i64 t646], .agg #[.int .i64 t647, .int .i64 t648]] ?_
      with_reducible refine (impl_TwoMul.calls t645 t646 t647 t648 t649 t650 _ A24.out).mono ?_
      rintro e w36 ⟨rfl, hb⟩
      refine ⟨_, rfl, ?_⟩
      replace BK639 := bB BK639 hb
      replace BK640 := bB BK640 hb
      replace BK641 := bB BK641 hb
      replace BK642 := bB BK642 hb
      replace BK643 := bB BK643 hb
      replace HB := bS HB hb
      (try clear hb)
      refine hK.out _ _ ⟨bc BK642 0, bc BK642 1, bc BK643 0, bc BK643 1, bc BK643 2, bc BK640 0, bc BK640 1, bc BK640 2⟩ (fun hHeld => ?_)
      clear hK K
      refine nO (some 23) ?_
      refine last_ (i := 8) (N := none) #[true, true, true, true, true, true, true, true, true] rfl rfl (one_of HT_.out (by kernel_rfl)) (by decide) (fun K hK => ?_)
      have hs37 : w36.cell? ⟨gb642, 0, none⟩ = some (.int .i64 x643000_1) := bc BK642 0
      have hfs37 := blk_frozen BK642.out 0
      have hns37_0 := NB639_642.out
      have hns37_1 := NB640_642.out
      have hns37_2 := NB641_642.out
      have hns37_4 := NB643_642.out
      have hms37_0 := NB642_639.out
      have hms37_1 := NB642_640.out
      have hms37_2 := NB642_641.out
      have hms37_4 := NB642_643.out
      have hs38 : w36.cell? ⟨gb642, 1, none⟩ = some (.int .i64 x643001_1) := bc BK642 1
      have hfs38 := blk_frozen BK642.out 1
      have hns38_0 := NB639_642.out
      have hns38_1 := NB640_642.out
      have hns38_2 := NB641_642.out
      have hns38_4 := NB643_642.out
      have hms38_0 := NB642_639.out
      have hms38_1 := NB642_640.out
      have hms38_2 := NB642_641.out
      have hms38_4 := NB642_643.out
      refine skip_ (w1 := ?_) (by rfl) rfl ?_ ?_
      rotate_left
      ·go_simp
       rfl
      refine hK.out _ _ ?_
      clear hK K
      refine done_ (done_of HT_.out (by kernel_rfl)) ?_
      have hnb39 := NB643_639.out
      have hnc39 := NB639_643.out
      have hnb40 := NB643_640.out
      have hnc40 := NB640_643.out
      have hnb41 := NB643_641.out
      have hnc41 := NB641_643.out
      have hnb42 := NB643_642.out
      have hnc42 := NB642_643.out
      obtain ⟨hcz43_0, hcz43_1, hcz43_2, hfz43_0, hfz43_1, hfz43_2⟩ := bK3 (w := w36) BK643
      try go_wp2_with (first | ((with_reducible refine gate_callee (f := 59) rfl ?_); refine gL (some 26) Tryd.func59 #[.agg #[.int .i64 x644000_1, .int .i64 x644001_1, .bool x644002_1], .agg #[.int .i64 x644000_1, .int .i64 x644001_1, .bool x644002_1]] ?_; (with_reducible refine (impl_PointAdd.calls k1 x644000_1 x644001_1 x644002_1 x644000_1 x644001_1 x644002_1 t651 t652 t653 _ A25.out).mono ?_); rintro e w44 ⟨rfl, hb⟩; refine ⟨_, rfl, ?_⟩; replace BK639 := bB BK639 hb; replace BK640 := bB BK640 hb; replace BK641 := bB BK641 hb; replace BK642 := bV 80 #[.int .i64 t649, .int .i64 t650] BK642 hb; replace BK643 := bB BK643 hb; replace HB := bS HB hb; (try clear hb); obtain ⟨hcz45_0, hcz45_1, hcz45_2, hfz45_0, hfz45_1, hfz45_2⟩ := bK3 (w := w44) BK643))
      have n0_ : Aside0 ((((w44.setCell ⟨gb643, 0, none⟩ (.int .i64 t651)).setCell ⟨gb643, 1, none⟩ (.int .i64 t652)).setCell ⟨gb643, 2, none⟩ (.bool t653)).heap[gb639]? = some (.cells #[.int .i64 a0_0, .int .i64 a0_1, .bool a0_2] 23 (0, 0))) := ⟨bP BK639⟩
      have n1_ : Aside0 ((((w44.setCell ⟨gb643, 0, none⟩ (.int .i64 t651)).setCell ⟨gb643, 1, none⟩ (.int .i64 t652)).setCell ⟨gb643, 2, none⟩ (.bool t653)).heap[gb640]? = some (.cells #[.int .i64 a1_0, .int .i64 a1_1, .bool a1_2] 23 (0, 0))) := ⟨bP BK640⟩
      have n2_ : Aside0 ((((w44.setCell ⟨gb643, 0, none⟩ (.int .i64 t651)).setCell ⟨gb643, 1, none⟩ (.int .i64 t652)).setCell ⟨gb643, 2, none⟩ (.bool t653)).heap[gb641]? = some (.cells #[.int .i64 0, .int .i64 0] 80 (0, 0))) := ⟨bP BK641⟩
      have n3_ : Aside0 ((((w44.setCell ⟨gb643, 0, none⟩ (.int .i64 t651)).setCell ⟨gb643, 1, none⟩ (.int .i64 t652)).setCell ⟨gb643, 2, none⟩ (.bool t653)).heap[gb642]? = some (.cells #[.int .i64 t649, .int .i64 t650] 80 (0, 0))) := ⟨bP BK642⟩
      have n4_ : Aside0 ((((w44.setCell ⟨gb643, 0, none⟩ (.int .i64 t651)).setCell ⟨gb643, 1, none⟩ (.int .i64 t652)).setCell ⟨gb643, 2, none⟩ (.bool t653)).heap[gb643]? = some (.cells #[.int .i64 t651, .int .i64 t652, .bool t653] 23 (0, 0))) := ⟨bU BK643⟩
      have n5_ : Aside0 (Below w.heap.size w (((w44.setCell ⟨gb643, 0, none⟩ (.int .i64 t651)).setCell ⟨gb643, 1, none⟩ (.int .i64 t652)).setCell ⟨gb643, 2, none⟩ (.bool t653))) := ⟨bZ HB⟩
      (try clear BK639)
      (try clear BK640)
      (try clear BK641)
      (try clear BK642)
      (try clear BK643)
      (try clear HB)
      generalize (((w44.setCell ⟨gb643, 0, none⟩ (.int .i64 t651)).setCell ⟨gb643, 1, none⟩ (.int .i64 t652)).setCell ⟨gb643, 2, none⟩ (.bool t653)) = w46 at n0_ n1_ n2_ n3_ n4_ n5_ ⊢
      have BK639 := n0_
      have BK640 := n1_
      have BK641 := n2_
      have BK642 := n3_
      have BK643 := n4_
      have HB := n5_
      clear n0_ n1_ n2_ n3_ n4_ n5_
      replace BK639 := Aside0.mk (blk_drew BK639.out)
      replace BK640 := Aside0.mk (blk_drew BK640.out)
      replace BK641 := Aside0.mk (blk_drew BK641.out)
      replace BK642 := Aside0.mk (blk_drew BK642.out)
      replace BK643 := Aside0.mk (blk_drew BK643.out)
      replace HB := Aside0.mk (below_drew1 HB.out)
      refine start_ (n := 7) (S := fun w' => w'.cell? ⟨gb642, 0, none⟩ = some (.int .i64 t649) ∧ w'.cell? ⟨gb642, 1, none⟩ = some (.int .i64 t650) ∧ w'.cell? ⟨gb643, 0, none⟩ = some (.int .i64 t651) ∧ w'.cell? ⟨gb643, 1, none⟩ = some (.int .i64 t652) ∧ w'.cell? ⟨gb643, 2, none⟩ = some (.bool t653) ∧ w'.cell? ⟨gb639, 0, none⟩ = some (.int .i64 a0_0) ∧ w'.cell? ⟨gb639, 1, none⟩ = some (.int .i64 a0_1) ∧ w'.cell? ⟨gb639, 2, none⟩ = some (.bool a0_2) ∧ w'.cell? ⟨gb640, 0, none⟩ = some (.int .i64 a1_0) ∧ w'.cell? ⟨gb640, 1, none⟩ = some (.int .i64 a1_1) ∧ w'.cell? ⟨gb640, 2, none⟩ = some (.bool a1_2)) (ds := [6]) #[false, false, false, false, false, false, false] (by kernel_rfl) rfl rfl ⟨bc BK642 0, bc BK642 1, bc BK643 0, bc BK643 1, bc BK643 2, bc BK639 0, bc BK639 1, bc BK639 2, bc BK640 0, bc BK640 1, bc BK640 2⟩ (fun hHeld => ?_)
      generalize w46.drew = w47 at BK639 BK640 BK641 BK642 BK643 HB hHeld ⊢
      refine take_ (i := 0) (N := some 32) (v := ?_) (a' := ?_) #[true, false, false, false, false, false, false] rfl rfl (by kernel_rfl) (fun _ _ _ h => h) (Or.inl ⟨by rfl, ?_⟩) hHeld ?_ ?_
      rotate_left
      ·rintro w' ⟨s0, s1, s2, s3, s4, s5, s6, s7, s8, s9, s10⟩
       go_simp
       with_reducible rfl
      rotate_left
      ·simp only [Act.put, List.setIfInBounds_toArray, List.set_cons_zero, List.set_cons_succ, i64_w, i32_w]
       rfl
      refine take_ (i := 1) (N := some 33) (v := ?_) (a' := ?_) #[true, true, false, false, false, false, false] rfl rfl (by kernel_rfl) (fun _ _ _ h => h) (Or.inl ⟨by rfl, ?_⟩) hHeld ?_ ?_
      rotate_left
      ·rintro w' ⟨s0, s1, s2, s3, s4, s5, s6, s7, s8, s9, s10⟩
       go_simp
       with_reducible rfl
      rotate_left
      ·simp only [Act.put, List.setIfInBounds_toArray, List.set_cons_zero, List.set_cons_succ, i64_w, i32_w]
       rfl
      refine take_ (i := 2) (N := some 34) (v := ?_) (a' := ?_) #[true, true, true, false, false, false, false] rfl rfl (by kernel_rfl) (fun _ _ _ h => h) (Or.inl ⟨by rfl, ?_⟩) hHeld ?_ ?_
      rotate_left
      ·rintro w' ⟨s0, s1, s2, s3, s4, s5, s6, s7, s8, s9, s10⟩
       go_simp
       with_reducible rfl
      rotate_left
      ·simp only [Act.put, List.setIfInBounds_toArray, List.set_cons_zero, List.set_cons_succ, i64_w, i32_w]
       rfl
      refine take_ (i := 3) (N := some 35) (v := ?_) (a' := ?_) #[true, true, true, true, false, false, false] rfl rfl (by kernel_rfl) (fun _ _ _ h => h) (Or.inl ⟨by rfl, ?_⟩) hHeld ?_ ?_
      rotate_left
      ·rintro w' ⟨s0, s1, s2, s3, s4, s5, s6, s7, s8, s9, s10⟩
       go_simp
       with_reducible rfl
      rotate_left
      ·simp only [Act.put, List.setIfInBounds_toArray, List.set_cons_zero, List.set_cons_succ, i64_w, i32_w]
       rfl
      refine one_ (i := 4) (N := some 36) #[true, true, true, true, true, false, false] rfl rfl (by kernel_rfl) (by decide) (fun K hK => ?_)
      refine gO Tryd.func133 #[.agg #[.int .i64 t651, .int .i64 t652, .bool t653], .agg #[.int .i64 a0_0, .int .i64 a0_1, .bool a0_2], .agg #[.int .i64 a1_0, .int .i64 a1_1, .bool a1_2]] ?_
      with_reducible refine (impl_PairLine.calls k1 t651 t652 t653 a0_0 a0_1 a0_2 a1_0 a1_1 a1_2 t654 t655 _ A30.out).mono ?_
      rintro e w48 ⟨rfl, hb⟩
      refine ⟨_, rfl, ?_⟩
      replace BK639 := bB BK639 hb
      replace BK640 := bB BK640 hb
      replace BK641 := bB BK641 hb
      replace BK642 := bB BK642 hb
      replace BK643 := bB BK643 hb
      replace HB := bS HB hb
      (try clear hb)
      refine hK.out _ _ ⟨bc BK642 0, bc BK642 1, bc BK643 0, bc BK643 1, bc BK643 2, bc BK639 0, bc BK639 1, bc BK639 2, bc BK640 0, bc BK640 1, bc BK640 2⟩ (fun hHeld => ?_)
      clear hK K
      refine nO (some 36) ?_
      refine one_ (i := 5) (N := some 37) #[true, true, true, true, true, true, false] rfl rfl (by kernel_rfl) (by decide) (fun K hK => ?_)
      refine gO Tryd.func109 #[.agg #[.int .i64 t649, .int .i64 t650], .agg #[.int .i64 t654, .int .i64 t655]] ?_
      with_reducible refine (impl_TwoMul.calls t649 t650 t654 t655 t656 t657 _ A31.out).mono ?_
      rintro e w49 ⟨rfl, hb⟩
      refine ⟨_, rfl, ?_⟩
      replace BK639 := bB BK639 hb
      replace BK640 := bB BK640 hb
      replace BK641 := bB BK641 hb
      replace BK642 := bB BK642 hb
      replace BK643 := bB BK643 hb
      replace HB := bS HB hb
      (try clear hb)
      refine hK.out _ _ ⟨bc BK642 0, bc BK642 1, bc BK643 0, bc BK643 1, bc BK643 2, bc BK639 0, bc BK639 1, bc BK639 2, bc BK640 0, bc BK640 1, bc BK640 2⟩ (fun hHeld => ?_)
      clear hK K
      refine nO (some 37) ?_
      refine last_ (i := 6) (N := none) #[true, true, true, true, true, true, true] rfl rfl (by kernel_rfl) (by decide) (fun K hK => ?_)
      have hs50 : w49.cell? ⟨gb642, 0, none⟩ = some (.int .i64 t649) := bc BK642 0
      have hfs50 := blk_frozen BK642.out 0
      have hns50_0 := NB639_642.out
      have hns50_1 := NB640_642.out
      have hns50_2 := NB641_642.out
      have hns50_4 := NB643_642.out
      have hms50_0 := NB642_639.out
      have hms50_1 := NB642_640.out
      have hms50_2 := NB642_641.out
      have hms50_4 := NB642_643.out
      have hs51 : w49.cell? ⟨gb642, 1, none⟩ = some (.int .i64 t650) := bc BK642 1
      have hfs51 := blk_frozen BK642.out 1
      have hns51_0 := NB639_642.out
      have hns51_1 := NB640_642.out
      have hns51_2 := NB641_642.out
      have hns51_4 := NB643_642.out
      have hms51_0 := NB642_639.out
      have hms51_1 := NB642_640.out
      have hms51_2 := NB642_641.out
      have hms51_4 := NB642_643.out
      refine skip_ (w1 := ?_) (by rfl) rfl ?_ ?_
      rotate_left
      ·go_simp
       rfl
      refine hK.out _ _ ?_
      clear hK K
      refine done_ (by kernel_rfl) ?_
      obtain ⟨hcz52_0, hcz52_1, hcz52_2, hfz52_0, hfz52_1, hfz52_2⟩ := bK3 (w := w49) BK643
      have hnb53 := NB639_640.out
      have hnc53 := NB640_639.out
      have hnb54 := NB639_641.out
      have hnc54 := NB641_639.out
      have hnb55 := NB639_642.out
      have hnc55 := NB642_639.out
      obtain ⟨hcz56_0, hcz56_1, hcz56_2, hfz56_0, hfz56_1, hfz56_2⟩ := bK3 (w := w49) BK639
      try go_wp2_with (first | ((with_reducible refine gate_callee (f := 59) rfl ?_); refine gL (some 40) Tryd.func59 #[.agg #[.int .i64 t651, .int .i64 t652, .bool t653], .agg #[.int .i64 a0_0, .int .i64 a0_1, .bool a0_2]] ?_; (with_reducible refine (impl_PointAdd.calls k1 t651 t652 t653 a0_0 a0_1 a0_2 t658 t659 t660 _ A32.out).mono ?_); rintro e w57 ⟨rfl, hb⟩; refine ⟨_, rfl, ?_⟩; replace BK639 := bB BK639 hb; replace BK640 := bB BK640 hb; replace BK641 := bB BK641 hb; replace BK642 := bV 80 #[.int .i64 t656, .int .i64 t657] BK642 hb; replace BK643 := bB BK643 hb; replace HB := bS HB hb; (try clear hb); obtain ⟨hcz58_0, hcz58_1, hcz58_2, hfz58_0, hfz58_1, hfz58_2⟩ := bK3 (w := w57) BK643))
      go_roundg k1
      case measure => have := HK1.out; omega
      case rel => exact ⟨(wrap64 (x7_1 - 1)), (t656), (t657), (t658), (t659), (t660), rS, H', ⟨by have := HK1.out; omega⟩, ⟨bP BK639⟩, ⟨bP BK640⟩, ⟨bP BK641⟩, ⟨bP BK642⟩, ⟨bU BK643⟩, ⟨bZ HB⟩⟩
     ·rw [if_neg c29] at H
      have c29b0 : ((Go.bits .and .i64 (ji28) 1) == 1) = false := beq_eq_false_iff_ne.mpr c29
      have c29b1 : ((Go.bits .and .i64 (ji28) 1) != 1) = true := bne_iff_ne.mpr c29
      have H' := Aside0.mk H
      clear H
      try go_wp2
      replace BK639 := Aside0.mk (blk_drew BK639.out)
      replace BK640 := Aside0.mk (blk_drew BK640.out)
      replace BK641 := Aside0.mk (blk_drew BK641.out)
      replace BK642 := Aside0.mk (blk_drew BK642.out)
      replace BK643 := Aside0.mk (blk_drew BK643.out)
      replace HB := Aside0.mk (below_drew1 HB.out)
      refine start_ (n := 9) (S := fun w' => w'.cell? ⟨gb642, 0, none⟩ = some (.int .i64 x643000_1) ∧ w'.cell? ⟨gb642, 1, none⟩ = some (.int .i64 x643001_1) ∧ w'.cell? ⟨gb643, 0, none⟩ = some (.int .i64 x644000_1) ∧ w'.cell? ⟨gb643, 1, none⟩ = some (.int .i64 x644001_1) ∧ w'.cell? ⟨gb643, 2, none⟩ = some (.bool x644002_1) ∧ w'.cell? ⟨gb640, 0, none⟩ = some (.int .i64 a1_0) ∧ w'.cell? ⟨gb640, 1, none⟩ = some (.int .i64 a1_1) ∧ w'.cell? ⟨gb640, 2, none⟩ = some (.bool a1_2)) (ds := [8]) #[false, false, false, false, false, false, false, false, false] (by kernel_rfl) rfl rfl ⟨bc BK642 0, bc BK642 1, bc BK643 0, bc BK643 1, bc BK643 2, bc BK640 0, bc BK640 1, bc BK640 2⟩ (fun hHeld => ?_); refine with_tabW impl_Miller.tab6 impl_Miller.bits6 (fun HT_ HW_ => ?_)
      generalize wr.drew = w59 at BK639 BK640 BK641 BK642 BK643 HB hHeld ⊢
      refine tI8 0 (some 16) HT_.out HW_.out hHeld ?_
      refine tI8 1 (some 17) HT_.out HW_.out hHeld ?_
      refine tI8 3 (some 19) HT_.out HW_.out hHeld ?_
      refine tI8 4 (some 20) HT_.out HW_.out hHeld ?_
      refine tI8 5 (some 21) HT_.out HW_.out hHeld ?_
      refine oI 2 (some 18) HT_.out (fun K hK => ?_)
      refine gO Tryd.func109 #[.agg #[.int .i64 x643000_1, .int .i64 x643001_1], .agg #[.int .i64 x643000_1, .int .i64 x643001_1]] ?_
      with_reducible refine (impl_TwoMul.calls x643000_1 x643001_1 x643000_1 x643001_1 t645 t646 _ A22.out).mono ?_
      rintro e w60 ⟨rfl, hb⟩
      refine ⟨_, rfl, ?_⟩
      replace BK639 := bB BK639 hb
      replace BK640 := bB BK640 hb
      replace BK641 := bB BK641 hb
      replace BK642 := bB BK642 hb
      replace BK643 := bB BK643 hb
      replace HB := bS HB hb
      (try clear hb)
      refine hK.out _ _ ⟨bc BK642 0, bc BK642 1, bc BK643 0, bc BK643 1, bc BK643 2, bc BK640 0, bc BK640 1, bc BK640 2⟩ (fun hHeld => ?_)
      clear hK K
      refine nO (some 18) ?_
      refine oI 6 (some 22) HT_.out (fun K hK => ?_)
      refine gO Tryd.func133 #[.agg #[.int .i64 x644000_1, .int .i64 x644001_1, .bool x644002_1], .agg #[.int .i64 x644000_1, .int .i64 x644001_1, .bool x644002_1], .agg #[.int .i64 a1_0, .int .i64 a1_1, .bool a1_2]] ?_
      with_reducible refine (impl_PairLine.calls k1 x644000_1 x644001_1 x644002_1 x644000_1 x644001_1 x644002_1 a1_0 a1_1 a1_2 t647 t648 _ A23.out).mono ?_
      rintro e w61 ⟨rfl, hb⟩
      refine ⟨_, rfl, ?_⟩
      replace BK639 := bB BK639 hb
      replace BK640 := bB BK640 hb
      replace BK641 := bB BK641 hb
      replace BK642 := bB BK642 hb
      replace BK643 := bB BK643 hb
      replace HB := bS HB hb
      (try clear hb)
      refine hK.out _ _ ⟨bc BK642 0, bc BK642 1, bc BK643 0, bc BK643 1, bc BK643 2, bc BK640 0, bc BK640 1, bc BK640 2⟩ (fun hHeld => ?_)
      clear hK K
      refine nO (some 22) ?_
      refine oI 7 (some 23) HT_.out (fun K hK => ?_)
      refine gO Tryd.func109 #[.agg #[.int .i64 t645, .int .i64 t646], .agg #[.int .i64 t647, .int .i64 t648]] ?_
      with_reducible refine (impl_TwoMul.calls t645 t646 t647 t648 t649 t650 _ A24.out).mono ?_
      rintro e w62 ⟨rfl, hb⟩
      refine ⟨_, rfl, ?_⟩
      replace BK639 := bB BK639 hb
      replace BK640 := bB BK640 hb
      replace BK641 := bB BK641 hb
      replace BK642 := bB BK642 hb
      replace BK643 := bB BK643 hb
      replace HB := bS HB hb
      (try clear hb)
      refine hK.out _ _ ⟨bc BK642 0, bc BK642 1, bc BK643 0, bc BK643 1, bc BK643 2, bc BK640 0, bc BK640 1, bc BK640 2⟩ (fun hHeld => ?_)
      clear hK K
      refine nO (some 23) ?_
      refine last_ (i := 8) (N := none) #[true, true, true, true, true, true, true, true, true] rfl rfl (one_of HT_.out (by kernel_rfl)) (by decide) (fun K hK => ?_)
      have hs63 : w62.cell? ⟨gb642, 0, none⟩ = some (.int .i64 x643000_1) := bc BK642 0
      have hfs63 := blk_frozen BK642.out 0
      have hns63_0 := NB639_642.out
      have hns63_1 := NB640_642.out
      have hns63_2 := NB641_642.out
      have hns63_4 := NB643_642.out
      have hms63_0 := NB642_639.out
      have hms63_1 := NB642_640.out
      have hms63_2 := NB642_641.out
      have hms63_4 := NB642_643.out
      have hs64 : w62.cell? ⟨gb642, 1, none⟩ = some (.int .i64 x643001_1) := bc BK642 1
      have hfs64 := blk_frozen BK642.out 1
      have hns64_0 := NB639_642.out
      have hns64_1 := NB640_642.out
      have hns64_2 := NB641_642.out
      have hns64_4 := NB643_642.out
      have hms64_0 := NB642_639.out
      have hms64_1 := NB642_640.out
      have hms64_2 := NB642_641.out
      have hms64_4 := NB642_643.out
      refine skip_ (w1 := ?_) (by rfl) rfl ?_ ?_
      rotate_left
      ·go_simp
       rfl
      refine hK.out _ _ ?_
      clear hK K
      refine done_ (done_of HT_.out (by kernel_rfl)) ?_
      have hnb65 := NB643_639.out
      have hnc65 := NB639_643.out
      have hnb66 := NB643_640.out
      have hnc66 := NB640_643.out
      have hnb67 := NB643_641.out
      have hnc67 := NB641_643.out
      have hnb68 := NB643_642.out
      have hnc68 := NB642_643.out
      obtain ⟨hcz69_0, hcz69_1, hcz69_2, hfz69_0, hfz69_1, hfz69_2⟩ := bK3 (w := w62) BK643
      try go_wp2_with (first | ((with_reducible refine gate_callee (f := 59) rfl ?_); refine gL (some 26) Tryd.func59 #[.agg #[.int .i64 x644000_1, .int .i64 x644001_1, .bool x644002_1], .agg #[.int .i64 x644000_1, .int .i64 x644001_1, .bool x644002_1]] ?_; (with_reducible refine (impl_PointAdd.calls k1 x644000_1 x644001_1 x644002_1 x644000_1 x644001_1 x644002_1 t651 t652 t653 _ A25.out).mono ?_); rintro e w70 ⟨rfl, hb⟩; refine ⟨_, rfl, ?_⟩; replace BK639 := bB BK639 hb; replace BK640 := bB BK640 hb; replace BK641 := bB BK641 hb; replace BK642 := bV 80 #[.int .i64 t649, .int .i64 t650] BK642 hb; replace BK643 := bB BK643 hb; replace HB := bS HB hb; (try clear hb); obtain ⟨hcz71_0, hcz71_1, hcz71_2, hfz71_0, hfz71_1, hfz71_2⟩ := bK3 (w := w70) BK643))
      go_roundg k1
      case measure => have := HK1.out; omega
      case rel => exact ⟨(wrap64 (x7_1 - 1)), (t649), (t650), (t651), (t652), (t653), rS, H', ⟨by have := HK1.out; omega⟩, ⟨bP BK639⟩, ⟨bP BK640⟩, ⟨bP BK641⟩, ⟨bP BK642⟩, ⟨bU BK643⟩, ⟨bZ HB⟩⟩
    ·rw [if_neg c27] at H
     exact absurd H (by simp)
   ·rw [if_neg c21] at H
    have c21b0 : decide (0 ≤ x7_1) = false := decide_eq_false c21
    clear c21
    simp only [Option.some.injEq, Prod.mk.injEq] at H
    obtain ⟨rfl, rfl⟩ := H
    have hnb72 := NB642_639.out
    have hnc72 := NB639_642.out
    have hnb73 := NB642_640.out
    have hnc73 := NB640_642.out
    have hnb74 := NB642_641.out
    have hnc74 := NB641_642.out
    have hnb75 := NB642_643.out
    have hnc75 := NB643_642.out
    obtain ⟨hcz76_0, hcz76_1, hfz76_0, hfz76_1⟩ := bK2 (w := wr) BK642
    have hnb77 := NB641_639.out
    have hnc77 := NB639_641.out
    have hnb78 := NB641_640.out
    have hnc78 := NB640_641.out
    have hnb79 := NB641_643.out
    have hnc79 := NB643_641.out
    obtain ⟨hcz80_0, hcz80_1, hfz80_0, hfz80_1⟩ := bK2 (w := wr) BK641
    go_wp2
    refine rC gb641 80 #[.int .i64 x643000_1, .int .i64 x643001_1] (bU BK641) Tryd.underlying80 ?_
    exact ⟨rR, bZ HB⟩
/-! ### impl_TwoPow: function 108 -/
def impl_TwoPow.l0 : Nat → Int → Int → Int → Int → Int → Option (Int × Int)
 | 0, _, _, _, _, _ => none
 | k + 1, x1, x662000, x662001, x664000, x664001 => if x1 > 0 then (if (Int.tmod x1 2) = 1 then ((impl_TwoMul.f x664000 x664001 x662000 x662001).bind fun bt664 => ((impl_TwoMul.f x662000 x662001 x662000 x662001).bind fun bt666 => (impl_TwoPow.l0 k (wrap64 (Int.tdiv x1 2)) bt666.1 bt666.2 bt664.1 bt664.2))) else ((impl_TwoMul.f x662000 x662001 x662000 x662001).bind fun bt668 => (impl_TwoPow.l0 k (wrap64 (Int.tdiv x1 2)) bt668.1 bt668.2 x664000 x664001))) else (some (x664000, x664001))
def impl_TwoPow.f (k : Nat) (a0_0 : Int) (a0_1 : Int) (a1 : Int) : Option (Int × Int) := if a1 < 0 then (some (0, 0)) else (impl_TwoPow.l0 k a1 a0_0 a0_1 1 0)
theorem impl_TwoPow.mono_l : ∀ k, (∀ y0 y1 y2 y3 y4, LeO (impl_TwoPow.l0 k y0 y1 y2 y3 y4) (impl_TwoPow.l0 (k + 1) y0 y1 y2 y3 y4))
 | 0 => fun _ _ _ _ _ r h => by simp [impl_TwoPow.l0] at h
 | k + 1 => by
  have ih0 := impl_TwoPow.mono_l k
  ·intro y0 y1 y2 y3 y4
   unfold impl_TwoPow.l0
   repeat' first
   | (with_reducible exact ih0 _ _ _ _ _)
   | (with_reducible exact LeO.refl _)
   | (with_reducible exact LeO.none _)
   | (with_reducible refine LeO.ite ?_ ?_)
   | (with_reducible refine LeO.bind ?_ (fun _ => ?_))
   | exact ih0 _ _ _ _ _
   | exact LeO.none _
   | refine LeO.ite ?_ ?_
   | refine LeO.bind ?_ (fun _ => ?_)
theorem impl_TwoPow.mono : ∀ a0 a1 a2 k, LeO (impl_TwoPow.f k a0 a1 a2) (impl_TwoPow.f (k + 1) a0 a1 a2) := by
 intro a0 a1 a2 k
 have ih0 := impl_TwoPow.mono_l k
 unfold impl_TwoPow.f
 repeat' first
   | (with_reducible exact ih0 _ _ _ _ _)
   | (with_reducible exact LeO.refl _)
   | (with_reducible exact LeO.none _)
   | (with_reducible refine LeO.ite ?_ ?_)
   | (with_reducible refine LeO.bind ?_ (fun _ => ?_))
   | exact ih0 _ _ _ _ _
   | exact LeO.none _
   | refine LeO.ite ?_ ?_
   | refine LeO.bind ?_ (fun _ => ?_)
set_option maxHeartbeats 8000000 in
set_option maxRecDepth 100000 in
theorem impl_TwoPow.calls (k : Nat) (a0_0 : Int) (a0_1 : Int) (a1 : Int) (r1 : Int) (r2 : Int) (w : World) (h : impl_TwoPow.f k a0_0 a0_1 a1 = some (r1, r2)) :
  Calls Tryd.prog 108 #[.agg #[.int .i64 a0_0, .int .i64 a0_1], .int .i64 a1] w fun e w' => e = .returned (.agg #[.int .i64 r1, .int .i64 r2]) ∧ Below w.heap.size w w' := by
 have hu80 := Tryd.underlying80
 have HB := Aside0.mk (Below.refl w.heap.size w)
 have H : (if a1 < 0 then (some (0, 0)) else (impl_TwoPow.l0 k a1 a0_0 a0_1 1 0)) = some (r1, r2) := h
 clear h
 by_cases c3 : a1 < 0
 ·rw [if_pos c3] at H
  have c3b0 : decide (a1 < 0) = true := decide_eq_true c3
  clear c3
  simp only [Option.some.injEq, Prod.mk.injEq] at H
  obtain ⟨rfl, rfl⟩ := H
  go_enter Tryd.func108, Tryd.ntmps108
  go_wp2_with (first | ((with_reducible refine gate_dst (N := 2) rfl ?_); refine bE 2 #[.int .i64 a0_0, .int .i64 a0_1] 80 ?_; intro gb661 hg w4 hbox hb; have BK661 := Aside0.mk (hbox); have GW661 := bG HB hg; have GE661 := bG HB hg; replace HB := bS HB hb; clear hb hbox hg) | ((with_reducible refine gate_dst (N := 4) rfl ?_); refine bE 4 #[.int .i64 0, .int .i64 0] 80 ?_; intro gb662 hg w5 hbox hb; have BK662 := Aside0.mk (hbox); have GW662 := bG HB hg; have GE662 := bG HB hg; replace HB := bS HB hb; have NB661_662 := bL BK661 hg; have NB662_661 := bR BK661 hg; replace BK661 := bB BK661 hb; clear hb hbox hg; have hnb6 := NB662_661.out; have hnc6 := NB661_662.out; obtain ⟨hcz7_0, hcz7_1, hfz7_0, hfz7_1⟩ := bK2 (w := w5) BK662))
  refine rC gb662 80 #[.int .i64 0, .int .i64 0] (bU BK662) Tryd.underlying80 ?_
  exact ⟨rR, bZ HB⟩
 ·rw [if_neg c3] at H
  have c3b0 : decide (a1 < 0) = false := decide_eq_false c3
  clear c3
  have H' := Aside0.mk H
  clear H
  go_enter Tryd.func108, Tryd.ntmps108
  go_wp2_with (first | ((with_reducible refine gate_dst (N := 2) rfl ?_); refine bE 2 #[.int .i64 a0_0, .int .i64 a0_1] 80 ?_; intro gb661 hg w8 hbox hb; have BK661 := Aside0.mk (hbox); have GW661 := bG HB hg; have GE661 := bG HB hg; replace HB := bS HB hb; clear hb hbox hg) | ((with_reducible refine gate_dst (N := 4) rfl ?_); refine bE 4 #[.int .i64 0, .int .i64 0] 80 ?_; intro gb662 hg w9 hbox hb; have BK662 := Aside0.mk (hbox); have GW662 := bG HB hg; have GE662 := bG HB hg; replace HB := bS HB hb; have NB661_662 := bL BK661 hg; have NB662_661 := bR BK661 hg; replace BK661 := bB BK661 hb; clear hb hbox hg) | ((with_reducible refine gate_dst (N := 5) rfl ?_); refine bE 5 #[.int .i64 0, .int .i64 0] 80 ?_; intro gb663 hg w10 hbox hb; have BK663 := Aside0.mk (hbox); have GW663 := bG HB hg; have GE663 := bG HB hg; replace HB := bS HB hb; have NB661_663 := bL BK661 hg; have NB663_661 := bR BK661 hg; replace BK661 := bB BK661 hb; have NB662_663 := bL BK662 hg; have NB663_662 := bR BK662 hg; replace BK662 := bB BK662 hb; clear hb hbox hg; have hnb11 := NB663_661.out; have hnc11 := NB661_663.out; have hnb12 := NB663_662.out; have hnc12 := NB662_663.out; obtain ⟨hcz13_0, hcz13_1, hfz13_0, hfz13_1⟩ := bK2 (w := w10) BK663))
  go_loopg [1] k (fun kq v1 w' => ∃ (x1_1 : Int) (x662000_1 : Int) (x662001_1 : Int) (x664000_1 : Int) (x664001_1 : Int), v1 = .int .i64 x1_1 ∧ Aside0 (impl_TwoPow.l0 kq x1_1 x662000_1 x662001_1 x664000_1 x664001_1 = some (r1, r2)) ∧ Aside0 (kq ≤ k) ∧ Aside0 (w'.heap[gb661]? = some (.cells #[.int .i64 x662000_1, .int .i64 x662001_1] 80 (0, 0))) ∧ Aside0 (w'.heap[gb662]? = some (.cells #[.int .i64 0, .int .i64 0] 80 (0, 0))) ∧ Aside0 (w'.heap[gb663]? = some (.cells #[.int .i64 x664000_1, .int .i64 x664001_1] 80 (0, 0))) ∧ Aside0 (Below w.heap.size w w'))
  case atStart => exact ⟨(a1), (a0_0), (a0_1), (1), (0), rS, H', ⟨Nat.le_refl _⟩, ⟨bP BK661⟩, ⟨bP BK662⟩, ⟨bU BK663⟩, ⟨bZ HB⟩⟩
  case round =>
   clear H'
   try clear c1
   try clear p2
   try clear c3
   try clear c3b0
   try clear c6
   try clear c10
   try clear c11
   try clear c12
   try clear hcz13_0
   try clear hcz13_1
   try clear hcz7_0
   try clear hcz7_1
   try clear hfz13_0
   try clear hfz13_1
   try clear hfz7_0
   try clear hfz7_1
   obtain ⟨x1_1, x662000_1, x662001_1, x664000_1, x664001_1, rfl, HA, HK1, BK661, BK662, BK663, HB⟩ := hrel
   cases gk with
   | zero => exact absurd HA.out (by simp [impl_TwoPow.l0])
   | succ k1 =>
    have H := HA.out
    clear HA
    simp only [impl_TwoPow.l0] at H
    by_cases c14 : x1_1 > 0
    ·rw [if_pos c14] at H
     have c14b0 : decide (0 < x1_1) = true := decide_eq_true c14
     clear c14
     by_cases c15 : (Int.tmod x1_1 2) = 1
     ·rw [if_pos c15] at H
      have c15b0 : ((Int.tmod x1_1 2) == 1) = true := beq_iff_eq.mpr c15
      have c15b1 : ((Int.tmod x1_1 2) != 1) = false := bne_eq_false_iff_eq.mpr c15
      clear c15
      replace H := Option.bind_eq_some_iff.mp H
      obtain ⟨⟨t664, t665⟩, A160, H⟩ := H
      have A16 := Aside0.mk A160
      clear A160
      replace H := Option.bind_eq_some_iff.mp H
      obtain ⟨⟨t666, t667⟩, A170, H⟩ := H
      have A17 := Aside0.mk A170
      clear A170
      have H' := Aside0.mk H
      clear H
      have hnb18 := NB663_661.out
      have hnc18 := NB661_663.out
      have hnb19 := NB663_662.out
      have hnc19 := NB662_663.out
      obtain ⟨hcz20_0, hcz20_1, hfz20_0, hfz20_1⟩ := bK2 (w := wr) BK663
      have hnb21 := NB661_662.out
      have hnc21 := NB662_661.out
      obtain ⟨hcz22_0, hcz22_1, hfz22_0, hfz22_1⟩ := bK2 (w := wr) BK661
      go_wp2_with (first | ((with_reducible refine gate_callee (f := 109) rfl ?_); refine gL (some 17) Tryd.func109 #[.agg #[.int .i64 x664000_1, .int .i64 x664001_1], .agg #[.int .i64 x662000_1, .int .i64 x662001_1]] ?_; (with_reducible refine (impl_TwoMul.calls x664000_1 x664001_1 x662000_1 x662001_1 t664 t665 _ A16.out).mono ?_); rintro e w23 ⟨rfl, hb⟩; refine ⟨_, rfl, ?_⟩; replace BK661 := bB BK661 hb; replace BK662 := bB BK662 hb; replace BK663 := bB BK663 hb; replace HB := bS HB hb; (try clear hb); obtain ⟨hcz24_0, hcz24_1, hfz24_0, hfz24_1⟩ := bK2 (w := w23) BK663; obtain ⟨hcz25_0, hcz25_1, hfz25_0, hfz25_1⟩ := bK2 (w := w23) BK661) | ((with_reducible refine gate_callee (f := 109) rfl ?_); refine gL (some 20) Tryd.func109 #[.agg #[.int .i64 x662000_1, .int .i64 x662001_1], .agg #[.int .i64 x662000_1, .int .i64 x662001_1]] ?_; (with_reducible refine (impl_TwoMul.calls x662000_1 x662001_1 x662000_1 x662001_1 t666 t667 _ A17.out).mono ?_); rintro e w26 ⟨rfl, hb⟩; refine ⟨_, rfl, ?_⟩; replace BK661 := bB BK661 hb; replace BK662 := bB BK662 hb; replace BK663 := bV 80 #[.int .i64 t664, .int .i64 t665] BK663 hb; replace HB := bS HB hb; (try clear hb); obtain ⟨hcz27_0, hcz27_1, hfz27_0, hfz27_1⟩ := bK2 (w := w26) BK661))
      go_roundg k1
      case measure => have := HK1.out; omega
      case rel => exact ⟨(wrap64 (Int.tdiv x1_1 2)), (t666), (t667), (t664), (t665), rS, H', ⟨by have := HK1.out; omega⟩, ⟨bU BK661⟩, ⟨bP BK662⟩, ⟨bP BK663⟩, ⟨bZ HB⟩⟩
     ·rw [if_neg c15] at H
      have c15b0 : ((Int.tmod x1_1 2) == 1) = false := beq_eq_false_iff_ne.mpr c15
      have c15b1 : ((Int.tmod x1_1 2) != 1) = true := bne_iff_ne.mpr c15
      replace H := Option.bind_eq_some_iff.mp H
      obtain ⟨⟨t668, t669⟩, A280, H⟩ := H
      have A28 := Aside0.mk A280
      clear A280
      have H' := Aside0.mk H
      clear H
      have hnb29 := NB661_662.out
      have hnc29 := NB662_661.out
      have hnb30 := NB661_663.out
      have hnc30 := NB663_661.out
      obtain ⟨hcz31_0, hcz31_1, hfz31_0, hfz31_1⟩ := bK2 (w := wr) BK661
      go_wp2_with (first | ((with_reducible refine gate_callee (f := 109) rfl ?_); refine gL (some 20) Tryd.func109 #[.agg #[.int .i64 x662000_1, .int .i64 x662001_1], .agg #[.int .i64 x662000_1, .int .i64 x662001_1]] ?_; (with_reducible refine (impl_TwoMul.calls x662000_1 x662001_1 x662000_1 x662001_1 t668 t669 _ A28.out).mono ?_); rintro e w32 ⟨rfl, hb⟩; refine ⟨_, rfl, ?_⟩; replace BK661 := bB BK661 hb; replace BK662 := bB BK662 hb; replace BK663 := bB BK663 hb; replace HB := bS HB hb; (try clear hb); obtain ⟨hcz33_0, hcz33_1, hfz33_0, hfz33_1⟩ := bK2 (w := w32) BK661))
      go_roundg k1
      case measure => have := HK1.out; omega
      case rel => exact ⟨(wrap64 (Int.tdiv x1_1 2)), (t668), (t669), (x664000_1), (x664001_1), rS, H', ⟨by have := HK1.out; omega⟩, ⟨bU BK661⟩, ⟨bP BK662⟩, ⟨bP BK663⟩, ⟨bZ HB⟩⟩
    ·rw [if_neg c14] at H
     have c14b0 : decide (0 < x1_1) = false := decide_eq_false c14
     clear c14
     simp only [Option.some.injEq, Prod.mk.injEq] at H
     obtain ⟨rfl, rfl⟩ := H
     have hnb34 := NB663_661.out
     have hnc34 := NB661_663.out
     have hnb35 := NB663_662.out
     have hnc35 := NB662_663.out
     obtain ⟨hcz36_0, hcz36_1, hfz36_0, hfz36_1⟩ := bK2 (w := wr) BK663
     have hnb37 := NB662_661.out
     have hnc37 := NB661_662.out
     obtain ⟨hcz38_0, hcz38_1, hfz38_0, hfz38_1⟩ := bK2 (w := wr) BK662
     go_wp2
     refine rC gb662 80 #[.int .i64 x664000_1, .int .i64 x664001_1] (bU BK662) Tryd.underlying80 ?_
     exact ⟨rR, bZ HB⟩
/-! ### impl_TwoTurn: function 110 -/
def impl_TwoTurn.f (a0_0 : Int) (a0_1 : Int) : Option (Int × Int) := (impl_FpOf.f a0_0).bind fun t672 => ((impl_FpSub.f 0 a0_1).bind fun t673 => (some (t672, t673)))
def impl_TwoTurn.T1 : Bool × List (List Nat × List Nat) := (true, [([], []), ([0], [0]), ([1], [1]), ([], []), ([3], [3]), ([4, 2], [4]), ([2, 5], [2, 5]), ([6, 5, 0, 1, 2, 3, 4, 5, 6], [6])])
def impl_TwoTurn.B1 : List Nat := [0, 1, 3, 0, 8, 31, 63, 127]
theorem impl_TwoTurn.tab1 : rtab .any (opsOf Tryd.f110 1) = impl_TwoTurn.T1 := by kernel_rfl
theorem impl_TwoTurn.bits1 : waitsOk impl_TwoTurn.T1.2 impl_TwoTurn.B1 = true := by kernel_rfl
set_option maxHeartbeats 8000000 in
set_option maxRecDepth 100000 in
theorem impl_TwoTurn.calls (a0_0 : Int) (a0_1 : Int) (r1 : Int) (r2 : Int) (w : World) (h : impl_TwoTurn.f a0_0 a0_1 = some (r1, r2)) :
  Calls Tryd.prog 110 #[.agg #[.int .i64 a0_0, .int .i64 a0_1]] w fun e w' => e = .returned (.agg #[.int .i64 r1, .int .i64 r2]) ∧ Below w.heap.size w w' := by
 have hu80 := Tryd.underlying80
 have HB := Aside0.mk (Below.refl w.heap.size w)
 have H : ((impl_FpOf.f a0_0).bind fun t672 => ((impl_FpSub.f 0 a0_1).bind fun t673 => (some (t672, t673)))) = some (r1, r2) := h
 clear h
 replace H := Option.bind_eq_some_iff.mp H
 obtain ⟨t672, A20, H⟩ := H
 have A2 := Aside0.mk A20
 clear A20
 replace H := Option.bind_eq_some_iff.mp H
 obtain ⟨t673, A30, H⟩ := H
 have A3 := Aside0.mk A30
 clear A30
 simp only [Option.some.injEq, Prod.mk.injEq] at H
 obtain ⟨rfl, rfl⟩ := H
 go_enter Tryd.func110, Tryd.ntmps110
 try go_wp2_with (first | ((with_reducible refine gate_dst (N := 1) rfl ?_); refine bE 1 #[.int .i64 a0_0, .int .i64 a0_1] 80 ?_; intro gb670 hg w4 hbox hb; have BK670 := Aside0.mk (hbox); have GW670 := bG HB hg; have GE670 := bG HB hg; replace HB := bS HB hb; clear hb hbox hg) | ((with_reducible refine gate_dst (N := 2) rfl ?_); refine bE 2 #[.int .i64 0, .int .i64 0] 80 ?_; intro gb671 hg w5 hbox hb; have BK671 := Aside0.mk (hbox); have GW671 := bG HB hg; have GE671 := bG HB hg; replace HB := bS HB hb; have NB670_671 := bL BK670 hg; have NB671_670 := bR BK670 hg; replace BK670 := bB BK670 hb; clear hb hbox hg))
 replace BK670 := Aside0.mk (blk_drew BK670.out)
 replace BK671 := Aside0.mk (blk_drew BK671.out)
 replace HB := Aside0.mk (below_drew1 HB.out)
 refine start_ (n := 8) (S := fun w' => w'.cell? ⟨gb670, 0, none⟩ = some (.int .i64 a0_0) ∧ w'.cell? ⟨gb670, 1, none⟩ = some (.int .i64 a0_1)) (ds := []) #[false, false, false, false, false, false, false, false] (by kernel_rfl) rfl rfl ⟨bc BK670 0, bc BK670 1⟩ (fun hHeld => ?_); refine with_tabW impl_TwoTurn.tab1 impl_TwoTurn.bits1 (fun HT_ HW_ => ?_)
 generalize w5.drew = w6 at BK670 BK671 HB hHeld ⊢
 refine pI 0 (some 3) HT_.out ?_
 refine pI 3 (some 6) HT_.out ?_
 refine tI2 1 (some 4) HT_.out HW_.out hHeld ?_
 refine tI2 4 (some 7) HT_.out HW_.out hHeld ?_
 refine oI 2 (some 5) HT_.out (fun K hK => ?_)
 refine gO Tryd.func48 #[.int .i64 a0_0] ?_
 with_reducible refine (impl_FpOf.calls a0_0 t672 _ A2.out).mono ?_
 rintro e w' ⟨rfl, ⟨nd, rfl⟩⟩
 refine ⟨_, rfl, ?_⟩
 refine hK.out _ _ ⟨bc BK670 0, bc BK670 1⟩ (fun hHeld => ?_)
 clear hK K
 refine nO (some 5) ?_
 refine oI 5 (some 8) HT_.out (fun K hK => ?_)
 refine gO Tryd.func126 #[.int .i64 0, .int .i64 a0_1] ?_
 with_reducible refine (impl_FpSub.calls 0 a0_1 t673 _ A3.out).mono ?_
 rintro e w' ⟨rfl, ⟨nd, rfl⟩⟩
 refine ⟨_, rfl, ?_⟩
 refine hK.out _ _ ⟨bc BK670 0, bc BK670 1⟩ (fun hHeld => ?_)
 clear hK K
 refine nO (some 8) ?_
 refine pI 6 (some 9) HT_.out ?_
 refine oI 7 (none) HT_.out (fun K hK => ?_)
 have hs7 : w6.cell? ⟨gb671, 0, none⟩ = some (.int .i64 0) := bc BK671 0
 have hfs7 := blk_frozen BK671.out 0
 have hns7_0 := NB670_671.out
 have hms7_0 := NB671_670.out
 have hs8 : w6.cell? ⟨gb671, 1, none⟩ = some (.int .i64 0) := bc BK671 1
 have hfs8 := blk_frozen BK671.out 1
 have hns8_0 := NB670_671.out
 have hms8_0 := NB671_670.out
 refine skip_ (w1 := ?_) (by rfl) rfl ?_ ?_
 rotate_left
 ·go_simp
  rfl
 refine hK.out _ _ ⟨((cell_far (p := ⟨gb671, _, none⟩) NB670_671.out _).trans (((cell_far (p := ⟨gb671, _, none⟩) NB670_671.out _).trans (hHeld.1)))), ((cell_far (p := ⟨gb671, _, none⟩) NB670_671.out _).trans (((cell_far (p := ⟨gb671, _, none⟩) NB670_671.out _).trans (hHeld.2))))⟩ (fun hHeld => ?_)
 clear hK K
 refine done_ (done_of HT_.out (by kernel_rfl)) ?_
 try go_wp2
 refine rC gb671 80 #[.int .i64 t672, .int .i64 t673] (bU BK671) Tryd.underlying80 ?_
 exact ⟨rR, bZ HB⟩
/-! ### impl_TwoInv: function 111 -/
def impl_TwoInv.f (k : Nat) (a0_0 : Int) (a0_1 : Int) : Option (Int × Int) := (impl_FpMul.f a0_0 a0_0).bind fun t676 => ((impl_FpMul.f a0_1 a0_1).bind fun t677 => ((impl_FpAdd.f t676 t677).bind fun t678 => ((impl_FpInv.f k t678).bind fun t679 => ((impl_FpMul.f a0_0 t679).bind fun t680 => ((impl_FpSub.f 0 a0_1).bind fun t681 => ((impl_FpMul.f t681 t679).bind fun t682 => (some (t680, t682))))))))
theorem impl_TwoInv.mono : ∀ a0 a1 k, LeO (impl_TwoInv.f k a0 a1) (impl_TwoInv.f (k + 1) a0 a1) := by
 intro a0 a1 k
 unfold impl_TwoInv.f
 repeat' first
   | (with_reducible exact impl_FpInv.mono _ _)
   | (with_reducible exact LeO.refl _)
   | (with_reducible exact LeO.none _)
   | (with_reducible refine LeO.ite ?_ ?_)
   | (with_reducible refine LeO.bind ?_ (fun _ => ?_))
   | exact impl_FpInv.mono _ _
   | exact LeO.none _
   | refine LeO.ite ?_ ?_
   | refine LeO.bind ?_ (fun _ => ?_)
def impl_TwoInv.T1 : Bool × List (List Nat × List Nat) := (true, [([], []), ([0], [0]), ([], []), ([2], [2]), ([1, 3], [1, 3]), ([], []), ([5], [5]), ([], []), ([7], [7]), ([6, 8, 4], [6, 8]), ([4, 9, 9], [4, 9]), ([10, 10], [10]), ([11, 11, 0, 1, 2, 3, 4, 5, 6, 7, 8, 9, 10, 11], [11])])
def impl_TwoInv.B1 : List Nat := [0, 1, 0, 4, 15, 0, 32, 0, 128, 511, 1023, 2047, 4095]
theorem impl_TwoInv.tab1 : rtab .any (opsOf Tryd.f111 1) = impl_TwoInv.T1 := by kernel_rfl
theorem impl_TwoInv.bits1 : waitsOk impl_TwoInv.T1.2 impl_TwoInv.B1 = true := by kernel_rfl
def impl_TwoInv.T2 : Bool × List (List Nat × List Nat) := (true, [([], []), ([0], [0]), ([], []), ([1, 2], [1, 2]), ([], []), ([4], [4]), ([5, 3], [5]), ([], []), ([6, 7, 6], [6, 7]), ([3, 8], [3, 8]), ([9, 8, 0, 1, 2, 3, 4, 5, 6, 7, 8, 9], [9])])
def impl_TwoInv.B2 : List Nat := [0, 1, 0, 7, 0, 16, 63, 0, 255, 511, 1023]
theorem impl_TwoInv.tab2 : rtab .any (opsOf Tryd.f111 2) = impl_TwoInv.T2 := by kernel_rfl
theorem impl_TwoInv.bits2 : waitsOk impl_TwoInv.T2.2 impl_TwoInv.B2 = true := by kernel_rfl
set_option maxHeartbeats 8000000 in
set_option maxRecDepth 100000 in
theorem impl_TwoInv.calls (k : Nat) (a0_0 : Int) (a0_1 : Int) (r1 : Int) (r2 : Int) (w : World) (h : impl_TwoInv.f k a0_0 a0_1 = some (r1, r2)) :
  Calls Tryd.prog 111 #[.agg #[.int .i64 a0_0, .int .i64 a0_1]] w fun e w' => e = .returned (.agg #[.int .i64 r1, .int .i64 r2]) ∧ Below w.heap.size w w' := by
 have hu80 := Tryd.underlying80
 have HB := Aside0.mk (Below.refl w.heap.size w)
 have H : ((impl_FpMul.f a0_0 a0_0).bind fun t676 => ((impl_FpMul.f a0_1 a0_1).bind fun t677 => ((impl_FpAdd.f t676 t677).bind fun t678 => ((impl_FpInv.f k t678).bind fun t679 => ((impl_FpMul.f a0_0 t679).bind fun t680 => ((impl_FpSub.f 0 a0_1).bind fun t681 => ((impl_FpMul.f t681 t679).bind fun t682 => (some (t680, t682))))))))) = some (r1, r2) := h
 clear h
 replace H := Option.bind_eq_some_iff.mp H
 obtain ⟨t676, A20, H⟩ := H
 have A2 := Aside0.mk A20
 clear A20
 replace H := Option.bind_eq_some_iff.mp H
 obtain ⟨t677, A30, H⟩ := H
 have A3 := Aside0.mk A30
 clear A30
 replace H := Option.bind_eq_some_iff.mp H
 obtain ⟨t678, A40, H⟩ := H
 have A4 := Aside0.mk A40
 clear A40
 replace H := Option.bind_eq_some_iff.mp H
 obtain ⟨t679, A50, H⟩ := H
 have A5 := Aside0.mk A50
 clear A50
 replace H := Option.bind_eq_some_iff.mp H
 obtain ⟨t680, A60, H⟩ := H
 have A6 := Aside0.mk A60
 clear A60
 replace H := Option.bind_eq_some_iff.mp H
 obtain ⟨t681, A70, H⟩ := H
 have A7 := Aside0.mk A70
 clear A70
 replace H := Option.bind_eq_some_iff.mp H
 obtain ⟨t682, A80, H⟩ := H
 have A8 := Aside0.mk A80
 clear A80
 simp only [Option.some.injEq, Prod.mk.injEq] at H
 obtain ⟨rfl, rfl⟩ := H
 go_enter Tryd.func111, Tryd.ntmps111
 try go_wp2_with (first | ((with_reducible refine gate_dst (N := 1) rfl ?_); refine bE 1 #[.int .i64 a0_0, .int .i64 a0_1] 80 ?_; intro gb674 hg w9 hbox hb; have BK674 := Aside0.mk (hbox); have GW674 := bG HB hg; have GE674 := bG HB hg; replace HB := bS HB hb; clear hb hbox hg) | ((with_reducible refine gate_dst (N := 2) rfl ?_); refine bE 2 #[.int .i64 0, .int .i64 0] 80 ?_; intro gb675 hg w10 hbox hb; have BK675 := Aside0.mk (hbox); have GW675 := bG HB hg; have GE675 := bG HB hg; replace HB := bS HB hb; have NB674_675 := bL BK674 hg; have NB675_674 := bR BK674 hg; replace BK674 := bB BK674 hb; clear hb hbox hg))
 replace BK674 := Aside0.mk (blk_drew BK674.out)
 replace BK675 := Aside0.mk (blk_drew BK675.out)
 replace HB := Aside0.mk (below_drew1 HB.out)
 refine start_ (n := 13) (S := fun w' => w'.cell? ⟨gb674, 0, none⟩ = some (.int .i64 a0_0) ∧ w'.cell? ⟨gb674, 1, none⟩ = some (.int .i64 a0_1)) (ds := []) #[false, false, false, false, false, false, false, false, false, false, false, false, false] (by kernel_rfl) rfl rfl ⟨bc BK674 0, bc BK674 1⟩ (fun hHeld => ?_); refine with_tabW impl_TwoInv.tab1 impl_TwoInv.bits1 (fun HT_ HW_ => ?_)
 generalize w10.drew = w11 at BK674 BK675 HB hHeld ⊢
 refine pI 0 (some 4) HT_.out ?_
 refine pI 2 (some 6) HT_.out ?_
 refine pI 5 (some 9) HT_.out ?_
 refine pI 7 (some 11) HT_.out ?_
 refine tI2 1 (some 5) HT_.out HW_.out hHeld ?_
 refine tI2 3 (some 7) HT_.out HW_.out hHeld ?_
 refine tI2 6 (some 10) HT_.out HW_.out hHeld ?_
 refine tI2 8 (some 12) HT_.out HW_.out hHeld ?_
 refine oI 4 (some 8) HT_.out (fun K hK => ?_)
 refine gO Tryd.func95 #[.int .i64 a0_0, .int .i64 a0_0] ?_
 with_reducible refine (impl_FpMul.calls a0_0 a0_0 t676 _ A2.out).mono ?_
 rintro e w' ⟨rfl, ⟨nd, rfl⟩⟩
 refine ⟨_, rfl, ?_⟩
 refine hK.out _ _ ⟨bc BK674 0, bc BK674 1⟩ (fun hHeld => ?_)
 clear hK K
 refine nO (some 8) ?_
 refine oI 9 (some 13) HT_.out (fun K hK => ?_)
 refine gO Tryd.func95 #[.int .i64 a0_1, .int .i64 a0_1] ?_
 with_reducible refine (impl_FpMul.calls a0_1 a0_1 t677 _ A3.out).mono ?_
 rintro e w' ⟨rfl, ⟨nd, rfl⟩⟩
 refine ⟨_, rfl, ?_⟩
 refine hK.out _ _ ⟨bc BK674 0, bc BK674 1⟩ (fun hHeld => ?_)
 clear hK K
 refine nO (some 13) ?_
 refine oI 10 (some 14) HT_.out (fun K hK => ?_)
 refine gO Tryd.func96 #[.int .i64 t676, .int .i64 t677] ?_
 with_reducible refine (impl_FpAdd.calls t676 t677 t678 _ A4.out).mono ?_
 rintro e w' ⟨rfl, ⟨nd, rfl⟩⟩
 refine ⟨_, rfl, ?_⟩
 refine hK.out _ _ ⟨bc BK674 0, bc BK674 1⟩ (fun hHeld => ?_)
 clear hK K
 refine nO (some 14) ?_
 refine oI 11 (some 15) HT_.out (fun K hK => ?_)
 refine gO Tryd.func134 #[.int .i64 t678] ?_
 with_reducible refine (impl_FpInv.calls k t678 t679 _ A5.out).mono ?_
 rintro e w' ⟨rfl, ⟨nd, rfl⟩⟩
 refine ⟨_, rfl, ?_⟩
 refine hK.out _ _ ⟨bc BK674 0, bc BK674 1⟩ (fun hHeld => ?_)
 clear hK K
 refine nO (some 15) ?_
 refine pI 12 (some 3) HT_.out ?_
 refine done_ (done_of HT_.out (by kernel_rfl)) ?_
 try go_wp2
 (try simp only [World.drewN_drewN]); (try (rw [drewN_self w11]; generalize hq_ : World.drewN w11 _ = w11; replace BK674 : Aside0 (w11.heap[gb674]? = some (.cells #[.int .i64 a0_0, .int .i64 a0_1] 80 (0, 0))) := ⟨by rw [← hq_]; exact (bP BK674)⟩; replace BK675 : Aside0 (w11.heap[gb675]? = some (.cells #[.int .i64 0, .int .i64 0] 80 (0, 0))) := ⟨by rw [← hq_]; exact (bP BK675)⟩; replace HB : Aside0 (Below w.heap.size w w11) := ⟨by rw [← hq_]; exact (bZ HB)⟩; clear hq_))
 replace BK674 := Aside0.mk (blk_drew BK674.out)
 replace BK675 := Aside0.mk (blk_drew BK675.out)
 replace HB := Aside0.mk (below_drew1 HB.out)
 refine start_ (n := 11) (S := fun w' => w'.cell? ⟨gb674, 0, none⟩ = some (.int .i64 a0_0) ∧ w'.cell? ⟨gb674, 1, none⟩ = some (.int .i64 a0_1)) (ds := []) #[false, false, false, false, false, false, false, false, false, false, false] (by kernel_rfl) rfl rfl ⟨bc BK674 0, bc BK674 1⟩ (fun hHeld => ?_); refine with_tabW impl_TwoInv.tab2 impl_TwoInv.bits2 (fun HT_ HW_ => ?_)
 generalize w11.drew = w12 at BK674 BK675 HB hHeld ⊢
 refine pI 0 (some 16) HT_.out ?_
 refine pI 2 (some 18) HT_.out ?_
 refine pI 4 (some 20) HT_.out ?_
 refine pI 7 (some 23) HT_.out ?_
 refine tI2 1 (some 17) HT_.out HW_.out hHeld ?_
 refine tI2 5 (some 21) HT_.out HW_.out hHeld ?_
 refine oI 3 (some 19) HT_.out (fun K hK => ?_)
 refine gO Tryd.func95 #[.int .i64 a0_0, .int .i64 t679] ?_
 with_reducible refine (impl_FpMul.calls a0_0 t679 t680 _ A6.out).mono ?_
 rintro e w' ⟨rfl, ⟨nd, rfl⟩⟩
 refine ⟨_, rfl, ?_⟩
 refine hK.out _ _ ⟨bc BK674 0, bc BK674 1⟩ (fun hHeld => ?_)
 clear hK K
 refine nO (some 19) ?_
 refine oI 6 (some 22) HT_.out (fun K hK => ?_)
 refine gO Tryd.func126 #[.int .i64 0, .int .i64 a0_1] ?_
 with_reducible refine (impl_FpSub.calls 0 a0_1 t681 _ A7.out).mono ?_
 rintro e w' ⟨rfl, ⟨nd, rfl⟩⟩
 refine ⟨_, rfl, ?_⟩
 refine hK.out _ _ ⟨bc BK674 0, bc BK674 1⟩ (fun hHeld => ?_)
 clear hK K
 refine nO (some 22) ?_
 refine oI 8 (some 24) HT_.out (fun K hK => ?_)
 refine gO Tryd.func95 #[.int .i64 t681, .int .i64 t679] ?_
 with_reducible refine (impl_FpMul.calls t681 t679 t682 _ A8.out).mono ?_
 rintro e w' ⟨rfl, ⟨nd, rfl⟩⟩
 refine ⟨_, rfl, ?_⟩
 refine hK.out _ _ ⟨bc BK674 0, bc BK674 1⟩ (fun hHeld => ?_)
 clear hK K
 refine nO (some 24) ?_
 refine pI 9 (some 25) HT_.out ?_
 refine oI 10 (none) HT_.out (fun K hK => ?_)
 have hs13 : w12.cell? ⟨gb675, 0, none⟩ = some (.int .i64 0) := bc BK675 0
 have hfs13 := blk_frozen BK675.out 0
 have hns13_0 := NB674_675.out
 have hms13_0 := NB675_674.out
 have hs14 : w12.cell? ⟨gb675, 1, none⟩ = some (.int .i64 0) := bc BK675 1
 have hfs14 := blk_frozen BK675.out 1
 have hns14_0 := NB674_675.out
 have hms14_0 := NB675_674.out
 refine skip_ (w1 := ?_) (by rfl) rfl ?_ ?_
 rotate_left
 ·go_simp
  rfl
 refine hK.out _ _ ⟨((cell_far (p := ⟨gb675, _, none⟩) NB674_675.out _).trans (((cell_far (p := ⟨gb675, _, none⟩) NB674_675.out _).trans (hHeld.1)))), ((cell_far (p := ⟨gb675, _, none⟩) NB674_675.out _).trans (((cell_far (p := ⟨gb675, _, none⟩) NB674_675.out _).trans (hHeld.2))))⟩ (fun hHeld => ?_)
 clear hK K
 refine done_ (done_of HT_.out (by kernel_rfl)) ?_
 try go_wp2
 refine rC gb675 80 #[.int .i64 t680, .int .i64 t682] (bU BK675) Tryd.underlying80 ?_
 exact ⟨rR, bZ HB⟩
/-! ### impl_Pairing: function 68 -/
def impl_Pairing.j0 : Nat → Bool → Int → Int → Bool → Int → Int → Bool → Option (Int × Int)
 | 0, _, _, _, _, _, _, _ => none
 | k + 1, x21, x684000, x684001, x684002, x685000, x685001, x685002 => if x21 = true then (some (1, 0)) else ((impl_Miller.f k x684000 x684001 x684002 x685000 x685001 x685002).bind fun bt688 => ((impl_TwoTurn.f bt688.1 bt688.2).bind fun bt691 => ((impl_TwoInv.f k bt688.1 bt688.2).bind fun bt693 => ((impl_TwoMul.f bt691.1 bt691.2 bt693.1 bt693.2).bind fun bt695 => ((impl_TwoPow.f k bt695.1 bt695.2 12).bind fun bt697 => (some (bt697.1, bt697.2)))))))
def impl_Pairing.f (k : Nat) (a0_0 : Int) (a0_1 : Int) (a0_2 : Bool) (a1_0 : Int) (a1_1 : Int) (a1_2 : Bool) : Option (Int × Int) := if a0_2 = true then (impl_Pairing.j0 k true a0_0 a0_1 a0_2 a1_0 a1_1 a1_2) else (if a1_2 = true then (impl_Pairing.j0 k true a0_0 a0_1 a0_2 a1_0 a1_1 a1_2) else ((impl_InGroup.f k a0_0 a0_1 a0_2).bind fun t686 => (if t686 = true then ((impl_InGroup.f k a1_0 a1_1 a1_2).bind fun t687 => (impl_Pairing.j0 k (!t687) a0_0 a0_1 a0_2 a1_0 a1_1 a1_2)) else (impl_Pairing.j0 k true a0_0 a0_1 a0_2 a1_0 a1_1 a1_2))))
theorem impl_Pairing.mono_l : ∀ k, (∀ y0 y1 y2 y3 y4 y5 y6, LeO (impl_Pairing.j0 k y0 y1 y2 y3 y4 y5 y6) (impl_Pairing.j0 (k + 1) y0 y1 y2 y3 y4 y5 y6))
 | 0 => fun _ _ _ _ _ _ _ r h => by simp [impl_Pairing.j0] at h
 | k + 1 => by
  have ih0 := impl_Pairing.mono_l k
  ·intro y0 y1 y2 y3 y4 y5 y6
   unfold impl_Pairing.j0
   repeat' first
   | (with_reducible exact ih0 _ _ _ _ _ _ _)
   | (with_reducible exact impl_InGroup.mono _ _ _ _)
   | (with_reducible exact impl_Miller.mono _ _ _ _ _ _ _)
   | (with_reducible exact impl_TwoInv.mono _ _ _)
   | (with_reducible exact impl_TwoPow.mono _ _ _ _)
   | (with_reducible exact LeO.refl _)
   | (with_reducible exact LeO.none _)
   | (with_reducible refine LeO.ite ?_ ?_)
   | (with_reducible refine LeO.bind ?_ (fun _ => ?_))
   | exact ih0 _ _ _ _ _ _ _
   | exact impl_InGroup.mono _ _ _ _
   | exact impl_Miller.mono _ _ _ _ _ _ _
   | exact impl_TwoInv.mono _ _ _
   | exact impl_TwoPow.mono _ _ _ _
   | exact LeO.none _
   | refine LeO.ite ?_ ?_
   | refine LeO.bind ?_ (fun _ => ?_)
theorem impl_Pairing.mono : ∀ a0 a1 a2 a3 a4 a5 k, LeO (impl_Pairing.f k a0 a1 a2 a3 a4 a5) (impl_Pairing.f (k + 1) a0 a1 a2 a3 a4 a5) := by
 intro a0 a1 a2 a3 a4 a5 k
 have ih0 := impl_Pairing.mono_l k
 unfold impl_Pairing.f
 repeat' first
   | (with_reducible exact ih0 _ _ _ _ _ _ _)
   | (with_reducible exact impl_InGroup.mono _ _ _ _)
   | (with_reducible exact impl_Miller.mono _ _ _ _ _ _ _)
   | (with_reducible exact impl_TwoInv.mono _ _ _)
   | (with_reducible exact impl_TwoPow.mono _ _ _ _)
   | (with_reducible exact LeO.refl _)
   | (with_reducible exact LeO.none _)
   | (with_reducible refine LeO.ite ?_ ?_)
   | (with_reducible refine LeO.bind ?_ (fun _ => ?_))
   | exact ih0 _ _ _ _ _ _ _
   | exact impl_InGroup.mono _ _ _ _
   | exact impl_Miller.mono _ _ _ _ _ _ _
   | exact impl_TwoInv.mono _ _ _
   | exact impl_TwoPow.mono _ _ _ _
   | exact LeO.none _
   | refine LeO.ite ?_ ?_
   | refine LeO.bind ?_ (fun _ => ?_)
set_option maxHeartbeats 8000000 in
set_option maxRecDepth 100000 in
theorem impl_Pairing.calls (k : Nat) (a0_0 : Int) (a0_1 : Int) (a0_2 : Bool) (a1_0 : Int) (a1_1 : Int) (a1_2 : Bool) (r1 : Int) (r2 : Int) (w : World) (h : impl_Pairing.f k a0_0 a0_1 a0_2 a1_0 a1_1 a1_2 = some (r1, r2)) :
  Calls Tryd.prog 68 #[.agg #[.int .i64 a0_0, .int .i64 a0_1, .bool a0_2], .agg #[.int .i64 a1_0, .int .i64 a1_1, .bool a1_2]] w fun e w' => e = .returned (.agg #[.int .i64 r1, .int .i64 r2]) ∧ Below w.heap.size w w' := by
 have hu23 := Tryd.underlying23
 have hu80 := Tryd.underlying80
 have HB := Aside0.mk (Below.refl w.heap.size w)
 have H : (if a0_2 = true then (impl_Pairing.j0 k true a0_0 a0_1 a0_2 a1_0 a1_1 a1_2) else (if a1_2 = true then (impl_Pairing.j0 k true a0_0 a0_1 a0_2 a1_0 a1_1 a1_2) else ((impl_InGroup.f k a0_0 a0_1 a0_2).bind fun t686 => (if t686 = true then ((impl_InGroup.f k a1_0 a1_1 a1_2).bind fun t687 => (impl_Pairing.j0 k (!t687) a0_0 a0_1 a0_2 a1_0 a1_1 a1_2)) else (impl_Pairing.j0 k true a0_0 a0_1 a0_2 a1_0 a1_1 a1_2))))) = some (r1, r2) := h
 clear h
 have HC3 := Aside0.mk H
 clear H
 go_enter Tryd.func68, Tryd.ntmps68
 go_upto_region 1 with (first | ((with_reducible refine gate_dst (N := 2) rfl ?_); refine bE 2 #[.int .i64 a0_0, .int .i64 a0_1, .bool a0_2] 23 ?_; intro gb683 hg w4 hbox hb; have BK683 := Aside0.mk (hbox); have GW683 := bG HB hg; have GE683 := bG HB hg; replace HB := bS HB hb; clear hb hbox hg) | ((with_reducible refine gate_dst (N := 3) rfl ?_); refine bE 3 #[.int .i64 a1_0, .int .i64 a1_1, .bool a1_2] 23 ?_; intro gb684 hg w5 hbox hb; have BK684 := Aside0.mk (hbox); have GW684 := bG HB hg; have GE684 := bG HB hg; replace HB := bS HB hb; have NB683_684 := bL BK683 hg; have NB684_683 := bR BK683 hg; replace BK683 := bB BK683 hb; clear hb hbox hg) | ((with_reducible refine gate_dst (N := 4) rfl ?_); refine bE 4 #[.int .i64 0, .int .i64 0] 80 ?_; intro gb685 hg w6 hbox hb; have BK685 := Aside0.mk (hbox); have GW685 := bG HB hg; have GE685 := bG HB hg; replace HB := bS HB hb; have NB683_685 := bL BK683 hg; have NB685_683 := bR BK683 hg; replace BK683 := bB BK683 hb; have NB684_685 := bL BK684 hg; have NB685_684 := bR BK684 hg; replace BK684 := bB BK684 hb; clear hb hbox hg))
 (try simp only [Act.put, List.setIfInBounds_toArray, List.set_cons_zero, List.set_cons_succ])
 go_cut [21] (fun v21 wc => ∃ (kq : Nat) (x21_2 : Bool), v21 = .bool x21_2 ∧ Aside0 (impl_Pairing.j0 kq x21_2 a0_0 a0_1 a0_2 a1_0 a1_1 a1_2 = some (r1, r2)) ∧ Aside0 (kq ≤ k) ∧ Aside0 (wc.heap[gb683]? = some (.cells #[.int .i64 a0_0, .int .i64 a0_1, .bool a0_2] 23 (0, 0))) ∧ Aside0 (wc.heap[gb684]? = some (.cells #[.int .i64 a1_0, .int .i64 a1_1, .bool a1_2] 23 (0, 0))) ∧ Aside0 (wc.heap[gb685]? = some (.cells #[.int .i64 0, .int .i64 0] 80 (0, 0))) ∧ Aside0 (Below w.heap.size w wc))
 case first =>
  have H := HC3.out
  clear HC3
  by_cases c7 : a0_2 = true
  ·subst c7
   rw [if_pos rfl] at H
   have H' := Aside0.mk H
   clear H
   have hnb8 := NB683_684.out
   have hnc8 := NB684_683.out
   have hnb9 := NB683_685.out
   have hnc9 := NB685_683.out
   obtain ⟨hcz10_0, hcz10_1, hcz10_2, hfz10_0, hfz10_1, hfz10_2⟩ := bK3 (w := w6) BK683
   go_wp2
   go_meet
   case rel => exact ⟨_, (true), rS, H', ⟨by first | omega | exact Nat.le_refl _⟩, ⟨bP BK683⟩, ⟨bP BK684⟩, ⟨bP BK685⟩, ⟨bZ HB⟩⟩
  ·replace c7 := Bool.eq_false_iff.mpr c7
   subst c7
   rw [if_neg (show ¬ (false = true) by decide)] at H
   by_cases c11 : a1_2 = true
   ·subst c11
    rw [if_pos rfl] at H
    have H' := Aside0.mk H
    clear H
    have hnb12 := NB683_684.out
    have hnc12 := NB684_683.out
    have hnb13 := NB683_685.out
    have hnc13 := NB685_683.out
    obtain ⟨hcz14_0, hcz14_1, hcz14_2, hfz14_0, hfz14_1, hfz14_2⟩ := bK3 (w := w6) BK683
    have hnb15 := NB684_685.out
    have hnc15 := NB685_684.out
    obtain ⟨hcz16_0, hcz16_1, hcz16_2, hfz16_0, hfz16_1, hfz16_2⟩ := bK3 (w := w6) BK684
    go_wp2
    go_meet
    case rel => exact ⟨_, (true), rS, H', ⟨by first | omega | exact Nat.le_refl _⟩, ⟨bP BK683⟩, ⟨bP BK684⟩, ⟨bP BK685⟩, ⟨bZ HB⟩⟩
   ·replace c11 := Bool.eq_false_iff.mpr c11
    subst c11
    rw [if_neg (show ¬ (false = true) by decide)] at H
    replace H := Option.bind_eq_some_iff.mp H
    obtain ⟨t686, A170, H⟩ := H
    have A17 := Aside0.mk A170
    clear A170
    by_cases c18 : t686 = true
    ·subst c18
     rw [if_pos rfl] at H
     replace H := Option.bind_eq_some_iff.mp H
     obtain ⟨t687, A190, H⟩ := H
     have A19 := Aside0.mk A190
     clear A190
     have H' := Aside0.mk H
     clear H
     have hnb20 := NB683_684.out
     have hnc20 := NB684_683.out
     have hnb21 := NB683_685.out
     have hnc21 := NB685_683.out
     obtain ⟨hcz22_0, hcz22_1, hcz22_2, hfz22_0, hfz22_1, hfz22_2⟩ := bK3 (w := w6) BK683
     have hnb23 := NB684_685.out
     have hnc23 := NB685_684.out
     obtain ⟨hcz24_0, hcz24_1, hcz24_2, hfz24_0, hfz24_1, hfz24_2⟩ := bK3 (w := w6) BK684
     go_wp2_with (first | (go_at_call 67; (with_reducible refine (impl_InGroup.calls k a0_0 a0_1 false true _ A17.out).mono ?_); rintro e w25 ⟨rfl, hb⟩; replace BK683 := bB BK683 hb; replace BK684 := bB BK684 hb; replace BK685 := bB BK685 hb; replace HB := bS HB hb; (try clear hb); obtain ⟨hcz26_0, hcz26_1, hcz26_2, hfz26_0, hfz26_1, hfz26_2⟩ := bK3 (w := w25) BK684) | (go_at_call 67; (with_reducible refine (impl_InGroup.calls k a1_0 a1_1 false t687 _ A19.out).mono ?_); rintro e w27 ⟨rfl, hb⟩; replace BK683 := bB BK683 hb; replace BK684 := bB BK684 hb; replace BK685 := bB BK685 hb; replace HB := bS HB hb; (try clear hb)))
     go_meet
     case rel => exact ⟨_, (!t687), rS, H', ⟨by first | omega | exact Nat.le_refl _⟩, ⟨bP BK683⟩, ⟨bP BK684⟩, ⟨bP BK685⟩, ⟨bZ HB⟩⟩
    ·replace c18 := Bool.eq_false_iff.mpr c18
     subst c18
     rw [if_neg (show ¬ (false = true) by decide)] at H
     have H' := Aside0.mk H
     clear H
     have hnb28 := NB683_684.out
     have hnc28 := NB684_683.out
     have hnb29 := NB683_685.out
     have hnc29 := NB685_683.out
     obtain ⟨hcz30_0, hcz30_1, hcz30_2, hfz30_0, hfz30_1, hfz30_2⟩ := bK3 (w := w6) BK683
     have hnb31 := NB684_685.out
     have hnc31 := NB685_684.out
     obtain ⟨hcz32_0, hcz32_1, hcz32_2, hfz32_0, hfz32_1, hfz32_2⟩ := bK3 (w := w6) BK684
     go_wp2_with (first | (go_at_call 67; (with_reducible refine (impl_InGroup.calls k a0_0 a0_1 false false _ A17.out).mono ?_); rintro e w33 ⟨rfl, hb⟩; replace BK683 := bB BK683 hb; replace BK684 := bB BK684 hb; replace BK685 := bB BK685 hb; replace HB := bS HB hb; (try clear hb)))
     go_meet
     case rel => exact ⟨_, (true), rS, H', ⟨by first | omega | exact Nat.le_refl _⟩, ⟨bP BK683⟩, ⟨bP BK684⟩, ⟨bP BK685⟩, ⟨bZ HB⟩⟩
 case rest =>
  clear HC3
  try clear c1
  try clear c2
  try clear p2
  try clear c3
  try clear c6
  try clear c7
  try clear c8
  try clear c9
  try clear c11
  try clear c12
  try clear c13
  try clear c15
  try clear c18
  try clear c20
  try clear c21
  try clear c23
  try clear c28
  try clear c29
  try clear c31
  try clear hcz10_0
  try clear hcz10_1
  try clear hcz10_2
  try clear hcz14_0
  try clear hcz14_1
  try clear hcz14_2
  try clear hcz16_0
  try clear hcz16_1
  try clear hcz16_2
  try clear hcz22_0
  try clear hcz22_1
  try clear hcz22_2
  try clear hcz24_0
  try clear hcz24_1
  try clear hcz24_2
  try clear hcz26_0
  try clear hcz26_1
  try clear hcz26_2
  try clear hcz30_0
  try clear hcz30_1
  try clear hcz30_2
  try clear hcz32_0
  try clear hcz32_1
  try clear hcz32_2
  try clear hfz10_0
  try clear hfz10_1
  try clear hfz10_2
  try clear hfz14_0
  try clear hfz14_1
  try clear hfz14_2
  try clear hfz16_0
  try clear hfz16_1
  try clear hfz16_2
  try clear hfz22_0
  try clear hfz22_1
  try clear hfz22_2
  try clear hfz24_0
  try clear hfz24_1
  try clear hfz24_2
  try clear hfz26_0
  try clear hfz26_1
  try clear hfz26_2
  try clear hfz30_0
  try clear hfz30_1
  try clear hfz30_2
  try clear hfz32_0
  try clear hfz32_1
  try clear hfz32_2
  obtain ⟨kq, x21_2, rfl, HA, HJ2, BK683, BK684, BK685, HB⟩ := hcut
  cases kq with
  | zero => exact absurd HA.out (by simp [impl_Pairing.j0])
  | succ kj2 =>
   have H := HA.out
   clear HA
   simp only [impl_Pairing.j0] at H
   by_cases c34 : x21_2 = true
   ·subst c34
    rw [if_pos rfl] at H
    simp only [Option.some.injEq, Prod.mk.injEq] at H
    obtain ⟨rfl, rfl⟩ := H
    have hnb35 := NB685_683.out
    have hnc35 := NB683_685.out
    have hnb36 := NB685_684.out
    have hnc36 := NB684_685.out
    obtain ⟨hcz37_0, hcz37_1, hfz37_0, hfz37_1⟩ := bK2 (w := wc) BK685
    go_wp2
    refine rC gb685 80 #[.int .i64 1, .int .i64 0] (bU BK685) Tryd.underlying80 ?_
    exact ⟨rR, bZ HB⟩
   ·replace c34 := Bool.eq_false_iff.mpr c34
    subst c34
    rw [if_neg (show ¬ (false = true) by decide)] at H
    replace H := Option.bind_eq_some_iff.mp H
    obtain ⟨⟨t688, t689⟩, A380, H⟩ := H
    have A38 := Aside0.mk A380
    clear A380
    replace H := Option.bind_eq_some_iff.mp H
    obtain ⟨⟨t691, t692⟩, A390, H⟩ := H
    have A39 := Aside0.mk A390
    clear A390
    replace H := Option.bind_eq_some_iff.mp H
    obtain ⟨⟨t693, t694⟩, A400, H⟩ := H
    have A40 := Aside0.mk A400
    clear A400
    replace H := Option.bind_eq_some_iff.mp H
    obtain ⟨⟨t695, t696⟩, A410, H⟩ := H
    have A41 := Aside0.mk A410
    clear A410
    replace H := Option.bind_eq_some_iff.mp H
    obtain ⟨⟨t697, t698⟩, A420, H⟩ := H
    have A42 := Aside0.mk A420
    clear A420
    simp only [Option.some.injEq, Prod.mk.injEq] at H
    obtain ⟨rfl, rfl⟩ := H
    have hnb43 := NB683_684.out
    have hnc43 := NB684_683.out
    have hnb44 := NB683_685.out
    have hnc44 := NB685_683.out
    obtain ⟨hcz45_0, hcz45_1, hcz45_2, hfz45_0, hfz45_1, hfz45_2⟩ := bK3 (w := wc) BK683
    have hnb46 := NB684_685.out
    have hnc46 := NB685_684.out
    obtain ⟨hcz47_0, hcz47_1, hcz47_2, hfz47_0, hfz47_1, hfz47_2⟩ := bK3 (w := wc) BK684
    try go_wp2_with (first | ((with_reducible refine gate_callee (f := 107) rfl ?_); refine gL (some 25) Tryd.func107 #[.agg #[.int .i64 a0_0, .int .i64 a0_1, .bool a0_2], .agg #[.int .i64 a1_0, .int .i64 a1_1, .bool a1_2]] ?_; (with_reducible refine (impl_Miller.calls kj2 a0_0 a0_1 a0_2 a1_0 a1_1 a1_2 t688 t689 _ A38.out).mono ?_); rintro e w48 ⟨rfl, hb⟩; refine ⟨_, rfl, ?_⟩; replace BK683 := bB BK683 hb; replace BK684 := bB BK684 hb; replace BK685 := bB BK685 hb; replace HB := bS HB hb; (try clear hb)) | ((with_reducible refine gate_dst (N := 5) rfl ?_); refine bE 5 #[.int .i64 0, .int .i64 0] 80 ?_; intro gb690 hg w49 hbox hb; have BK690 := Aside0.mk (hbox); have GW690 := bG HB hg; have GE690 := bG HB hg; replace HB := bS HB hb; have NB683_690 := bL BK683 hg; have NB690_683 := bR BK683 hg; replace BK683 := bB BK683 hb; have NB684_690 := bL BK684 hg; have NB690_684 := bR BK684 hg; replace BK684 := bB BK684 hb; have NB685_690 := bL BK685 hg; have NB690_685 := bR BK685 hg; replace BK685 := bB BK685 hb; clear hb hbox hg; have hnb50 := NB690_683.out; have hnc50 := NB683_690.out; have hnb51 := NB690_684.out; have hnc51 := NB684_690.out; have hnb52 := NB690_685.out; have hnc52 := NB685_690.out; obtain ⟨hcz53_0, hcz53_1, hfz53_0, hfz53_1⟩ := bK2 (w := w49) BK690))
    have n0_ : Aside0 (((w49.setCell ⟨gb690, 0, none⟩ (.int .i64 t688)).setCell ⟨gb690, 1, none⟩ (.int .i64 t689)).heap[gb683]? = some (.cells #[.int .i64 a0_0, .int .i64 a0_1, .bool a0_2] 23 (0, 0))) := ⟨bP BK683⟩
    have n1_ : Aside0 (((w49.setCell ⟨gb690, 0, none⟩ (.int .i64 t688)).setCell ⟨gb690, 1, none⟩ (.int .i64 t689)).heap[gb684]? = some (.cells #[.int .i64 a1_0, .int .i64 a1_1, .bool a1_2] 23 (0, 0))) := ⟨bP BK684⟩
    have n2_ : Aside0 (((w49.setCell ⟨gb690, 0, none⟩ (.int .i64 t688)).setCell ⟨gb690, 1, none⟩ (.int .i64 t689)).heap[gb685]? = some (.cells #[.int .i64 0, .int .i64 0] 80 (0, 0))) := ⟨bP BK685⟩
    have n3_ : Aside0 (((w49.setCell ⟨gb690, 0, none⟩ (.int .i64 t688)).setCell ⟨gb690, 1, none⟩ (.int .i64 t689)).heap[gb690]? = some (.cells #[.int .i64 t688, .int .i64 t689] 80 (0, 0))) := ⟨bU BK690⟩
    have n4_ : Aside0 (Below w.heap.size w ((w49.setCell ⟨gb690, 0, none⟩ (.int .i64 t688)).setCell ⟨gb690, 1, none⟩ (.int .i64 t689))) := ⟨bZ HB⟩
    (try clear BK683)
    (try clear BK684)
    (try clear BK685)
    (try clear BK690)
    (try clear HB)
    generalize ((w49.setCell ⟨gb690, 0, none⟩ (.int .i64 t688)).setCell ⟨gb690, 1, none⟩ (.int .i64 t689)) = w54 at n0_ n1_ n2_ n3_ n4_ ⊢
    have BK683 := n0_
    have BK684 := n1_
    have BK685 := n2_
    have BK690 := n3_
    have HB := n4_
    clear n0_ n1_ n2_ n3_ n4_
    replace BK683 := Aside0.mk (blk_drew BK683.out)
    replace BK684 := Aside0.mk (blk_drew BK684.out)
    replace BK685 := Aside0.mk (blk_drew BK685.out)
    replace BK690 := Aside0.mk (blk_drew BK690.out)
    replace HB := Aside0.mk (below_drew1 HB.out)
    refine start_ (n := 7) (S := fun w' => w'.cell? ⟨gb690, 0, none⟩ = some (.int .i64 t688) ∧ w'.cell? ⟨gb690, 1, none⟩ = some (.int .i64 t689)) (ds := []) #[false, false, false, false, false, false, false] (by kernel_rfl) rfl rfl ⟨bc BK690 0, bc BK690 1⟩ (fun hHeld => ?_)
    generalize w54.drew = w55 at BK683 BK684 BK685 BK690 HB hHeld ⊢
    refine take_ (i := 0) (N := some 26) (v := ?_) (a' := ?_) #[true, false, false, false, false, false, false] rfl rfl (by kernel_rfl) (fun _ _ _ h => h) (Or.inl ⟨by rfl, ?_⟩) hHeld ?_ ?_
    rotate_left
    ·rintro w' ⟨s0, s1⟩
     go_simp
     with_reducible rfl
    rotate_left
    ·simp only [Act.put, List.setIfInBounds_toArray, List.set_cons_zero, List.set_cons_succ, i64_w, i32_w]
     rfl
    refine take_ (i := 2) (N := some 28) (v := ?_) (a' := ?_) #[true, false, true, false, false, false, false] rfl rfl (by kernel_rfl) (fun _ _ _ h => h) (Or.inl ⟨by rfl, ?_⟩) hHeld ?_ ?_
    rotate_left
    ·rintro w' ⟨s0, s1⟩
     go_simp
     with_reducible rfl
    rotate_left
    ·simp only [Act.put, List.setIfInBounds_toArray, List.set_cons_zero, List.set_cons_succ, i64_w, i32_w]
     rfl
    refine one_ (i := 1) (N := some 27) #[true, true, true, false, false, false, false] rfl rfl (by kernel_rfl) (by decide) (fun K hK => ?_)
    refine gO Tryd.func110 #[.agg #[.int .i64 t688, .int .i64 t689]] ?_
    with_reducible refine (impl_TwoTurn.calls t688 t689 t691 t692 _ A39.out).mono ?_
    rintro e w56 ⟨rfl, hb⟩
    refine ⟨_, rfl, ?_⟩
    replace BK683 := bB BK683 hb
    replace BK684 := bB BK684 hb
    replace BK685 := bB BK685 hb
    replace BK690 := bB BK690 hb
    replace HB := bS HB hb
    (try clear hb)
    refine hK.out _ _ ⟨bc BK690 0, bc BK690 1⟩ (fun hHeld => ?_)
    clear hK K
    refine nO (some 27) ?_
    refine one_ (i := 3) (N := some 29) #[true, true, true, true, false, false, false] rfl rfl (by kernel_rfl) (by decide) (fun K hK => ?_)
    refine gO Tryd.func111 #[.agg #[.int .i64 t688, .int .i64 t689]] ?_
    with_reducible refine (impl_TwoInv.calls kj2 t688 t689 t693 t694 _ A40.out).mono ?_
    rintro e w57 ⟨rfl, hb⟩
    refine ⟨_, rfl, ?_⟩
    replace BK683 := bB BK683 hb
    replace BK684 := bB BK684 hb
    replace BK685 := bB BK685 hb
    replace BK690 := bB BK690 hb
    replace HB := bS HB hb
    (try clear hb)
    refine hK.out _ _ ⟨bc BK690 0, bc BK690 1⟩ (fun hHeld => ?_)
    clear hK K
    refine nO (some 29) ?_
    refine one_ (i := 4) (N := some 30) #[true, true, true, true, true, false, false] rfl rfl (by kernel_rfl) (by decide) (fun K hK => ?_)
    refine gO Tryd.func109 #[.agg #[.int .i64 t691, .int .i64 t692], .agg #[.int .i64 t693, .int .i64 t694]] ?_
    with_reducible refine (impl_TwoMul.calls t691 t692 t693 t694 t695 t696 _ A41.out).mono ?_
    rintro e w58 ⟨rfl, hb⟩
    refine ⟨_, rfl, ?_⟩
    replace BK683 := bB BK683 hb
    replace BK684 := bB BK684 hb
    replace BK685 := bB BK685 hb
    replace BK690 := bB BK690 hb
    replace HB := bS HB hb
    (try clear hb)
    refine hK.out _ _ ⟨bc BK690 0, bc BK690 1⟩ (fun hHeld => ?_)
    clear hK K
    refine nO (some 30) ?_
    refine one_ (i := 5) (N := some 31) #[true, true, true, true, true, true, false] rfl rfl (by kernel_rfl) (by decide) (fun K hK => ?_)
    refine gO Tryd.func108 #[.agg #[.int .i64 t695, .int .i64 t696], .int .i64 12] ?_
    with_reducible refine (impl_TwoPow.calls kj2 t695 t696 12 t697 t698 _ A42.out).mono ?_
    rintro e w59 ⟨rfl, hb⟩
    refine ⟨_, rfl, ?_⟩
    replace BK683 := bB BK683 hb
    replace BK684 := bB BK684 hb
    replace BK685 := bB BK685 hb
    replace BK690 := bB BK690 hb
    replace HB := bS HB hb
    (try clear hb)
    refine hK.out _ _ ⟨bc BK690 0, bc BK690 1⟩ (fun hHeld => ?_)
    clear hK K
    refine nO (some 31) ?_
    refine one_ (i := 6) (N := none) #[true, true, true, true, true, true, true] rfl rfl (by kernel_rfl) (by decide) (fun K hK => ?_)
    have hs60 : w59.cell? ⟨gb685, 0, none⟩ = some (.int .i64 0) := bc BK685 0
    have hfs60 := blk_frozen BK685.out 0
    have hns60_0 := NB683_685.out
    have hns60_1 := NB684_685.out
    have hns60_3 := NB690_685.out
    have hms60_0 := NB685_683.out
    have hms60_1 := NB685_684.out
    have hms60_3 := NB685_690.out
    have hs61 : w59.cell? ⟨gb685, 1, none⟩ = some (.int .i64 0) := bc BK685 1
    have hfs61 := blk_frozen BK685.out 1
    have hns61_0 := NB683_685.out
    have hns61_1 := NB684_685.out
    have hns61_3 := NB690_685.out
    have hms61_0 := NB685_683.out
    have hms61_1 := NB685_684.out
    have hms61_3 := NB685_690.out
    refine skip_ (w1 := ?_) (by rfl) rfl ?_ ?_
    rotate_left
    ·go_simp
     rfl
    refine hK.out _ _ ⟨((cell_far (p := ⟨gb685, _, none⟩) NB690_685.out _).trans (((cell_far (p := ⟨gb685, _, none⟩) NB690_685.out _).trans (hHeld.1)))), ((cell_far (p := ⟨gb685, _, none⟩) NB690_685.out _).trans (((cell_far (p := ⟨gb685, _, none⟩) NB690_685.out _).trans (hHeld.2))))⟩ (fun hHeld => ?_)
    clear hK K
    refine done_ (by kernel_rfl) ?_
    try go_wp2
    refine rC gb685 80 #[.int .i64 t697, .int .i64 t698] (bU BK685) Tryd.underlying80 ?_
    exact ⟨rR, bZ HB⟩
end Go.Proofs.YtkdmplfldfagnaaDoor.Pf
end
section
namespace Go.Proofs.YtkdmplfldfagnaaDoor.Pf
open Go.RowKit Go.Proofs.YtkdmplfldfagnaaDoorW.PrintWords Go.Proofs.YtkdmplfldfagnaaDoorW.PrintLast Go.Proofs.YtkdmplfldfagnaaDoorW.PrintMore
attribute [local go_sem] max2_int min2_int max_two min_two max_three min_three max_four min_four   -- for this text's walks alone
set_option linter.unusedVariables false
set_option linter.unusedSimpArgs false
attribute [local go_sem high] eqA80
/-! ### impl_SigOk: function 24 -/
def impl_SigOk.j0 : Nat → ByteArray → Bool → Int → Int → Bool → Int → Int → Bool → Option (Bool)
 | 0, _, _, _, _, _, _, _, _ => none
 | k + 1, x1, x22, x700000, x700001, x700002, x701000, x701001, x701002 => if x22 = true then (some false) else ((impl_Base.f).bind fun bt703 => ((impl_Pairing.f k x701000 x701001 x701002 bt703.1 bt703.2.1 bt703.2.2).bind fun bt706 => ((impl_HashPoint.f k x1).bind fun bt708 => ((impl_Pairing.f k bt708.1 bt708.2.1 bt708.2.2 x700000 x700001 x700002).bind fun bt711 => (some (bt706.1 == bt711.1 && (bt706.2 == bt711.2)))))))
def impl_SigOk.f (k : Nat) (a0_0 : Int) (a0_1 : Int) (a0_2 : Bool) (a1 : ByteArray) (a2_0 : Int) (a2_1 : Int) (a2_2 : Bool) : Option (Bool) := if a0_2 = true then (impl_SigOk.j0 k a1 true a0_0 a0_1 a0_2 a2_0 a2_1 a2_2) else (if a2_2 = true then (impl_SigOk.j0 k a1 true a0_0 a0_1 a0_2 a2_0 a2_1 a2_2) else ((impl_InGroup.f k a0_0 a0_1 a0_2).bind fun t701 => (if t701 = true then ((impl_InGroup.f k a2_0 a2_1 a2_2).bind fun t702 => (impl_SigOk.j0 k a1 (!t702) a0_0 a0_1 a0_2 a2_0 a2_1 a2_2)) else (impl_SigOk.j0 k a1 true a0_0 a0_1 a0_2 a2_0 a2_1 a2_2))))
theorem impl_SigOk.mono_l : ∀ k, (∀ y0 y1 y2 y3 y4 y5 y6 y7, LeO (impl_SigOk.j0 k y0 y1 y2 y3 y4 y5 y6 y7) (impl_SigOk.j0 (k + 1) y0 y1 y2 y3 y4 y5 y6 y7))
 | 0 => fun _ _ _ _ _ _ _ _ r h => by simp [impl_SigOk.j0] at h
 | k + 1 => by
  have ih0 := impl_SigOk.mono_l k
  ·intro y0 y1 y2 y3 y4 y5 y6 y7
   unfold impl_SigOk.j0
   repeat' first
   | (with_reducible exact ih0 _ _ _ _ _ _ _ _)
   | (with_reducible exact impl_HashPoint.mono _ _)
   | (with_reducible exact impl_InGroup.mono _ _ _ _)
   | (with_reducible exact impl_Pairing.mono _ _ _ _ _ _ _)
   | (with_reducible exact LeO.refl _)
   | (with_reducible exact LeO.none _)
   | (with_reducible refine LeO.ite ?_ ?_)
   | (with_reducible refine LeO.bind ?_ (fun _ => ?_))
   | exact ih0 _ _ _ _ _ _ _ _
   | exact impl_HashPoint.mono _ _
   | exact impl_InGroup.mono _ _ _ _
   | exact impl_Pairing.mono _ _ _ _ _ _ _
   | exact LeO.none _
   | refine LeO.ite ?_ ?_
   | refine LeO.bind ?_ (fun _ => ?_)
theorem impl_SigOk.mono : ∀ a0 a1 a2 a3 a4 a5 a6 k, LeO (impl_SigOk.f k a0 a1 a2 a3 a4 a5 a6) (impl_SigOk.f (k + 1) a0 a1 a2 a3 a4 a5 a6) := by
 intro a0 a1 a2 a3 a4 a5 a6 k
 have ih0 := impl_SigOk.mono_l k
 unfold impl_SigOk.f
 repeat' first
   | (with_reducible exact ih0 _ _ _ _ _ _ _ _)
   | (with_reducible exact impl_HashPoint.mono _ _)
   | (with_reducible exact impl_InGroup.mono _ _ _ _)
   | (with_reducible exact impl_Pairing.mono _ _ _ _ _ _ _)
   | (with_reducible exact LeO.refl _)
   | (with_reducible exact LeO.none _)
   | (with_reducible refine LeO.ite ?_ ?_)
   | (with_reducible refine LeO.bind ?_ (fun _ => ?_))
   | exact ih0 _ _ _ _ _ _ _ _
   | exact impl_HashPoint.mono _ _
   | exact impl_InGroup.mono _ _ _ _
   | exact impl_Pairing.mono _ _ _ _ _ _ _
   | exact LeO.none _
   | refine LeO.ite ?_ ?_
   | refine LeO.bind ?_ (fun _ => ?_)
def impl_SigOk.T3 : Bool × List (List Nat × List Nat) := (true, [([], []), ([], []), ([0, 1, 1], [0, 1]), ([], []), ([3, 2], [3]), ([], []), ([4, 5, 4], [4, 5]), ([2, 6], [2, 6]), ([7, 6, 0, 1, 2, 3, 4, 5, 6, 7], [7])])
def impl_SigOk.B3 : List Nat := [0, 0, 3, 0, 15, 0, 63, 127, 255]
theorem impl_SigOk.tab3 : rtab .any (opsOf Tryd.f24 3) = impl_SigOk.T3 := by kernel_rfl
theorem impl_SigOk.bits3 : waitsOk impl_SigOk.T3.2 impl_SigOk.B3 = true := by kernel_rfl
set_option maxHeartbeats 8000000 in
set_option maxRecDepth 100000 in
theorem impl_SigOk.calls (k : Nat) (a0_0 : Int) (a0_1 : Int) (a0_2 : Bool) (a1 : ByteArray) (a2_0 : Int) (a2_1 : Int) (a2_2 : Bool) (r : Bool) (w : World) (hT : Kp.Tab w) (h : impl_SigOk.f k a0_0 a0_1 a0_2 a1 a2_0 a2_1 a2_2 = some r) :
  Calls Tryd.prog 24 #[.agg #[.int .i64 a0_0, .int .i64 a0_1, .bool a0_2], .string a1, .agg #[.int .i64 a2_0, .int .i64 a2_1, .bool a2_2]] w fun e w' => e = .returned (.bool r) ∧ Below w.heap.size w w' := by
 have HT := Aside0.mk hT
 clear hT
 have hu23 := Tryd.underlying23
 have HB := Aside0.mk (Below.refl w.heap.size w)
 have H : (if a0_2 = true then (impl_SigOk.j0 k a1 true a0_0 a0_1 a0_2 a2_0 a2_1 a2_2) else (if a2_2 = true then (impl_SigOk.j0 k a1 true a0_0 a0_1 a0_2 a2_0 a2_1 a2_2) else ((impl_InGroup.f k a0_0 a0_1 a0_2).bind fun t701 => (if t701 = true then ((impl_InGroup.f k a2_0 a2_1 a2_2).bind fun t702 => (impl_SigOk.j0 k a1 (!t702) a0_0 a0_1 a0_2 a2_0 a2_1 a2_2)) else (impl_SigOk.j0 k a1 true a0_0 a0_1 a0_2 a2_0 a2_1 a2_2))))) = some r := h
 clear h
 have HC4 := Aside0.mk H
 clear H
 go_enter Tryd.func24, Tryd.ntmps24
 go_upto_region 1 with (first | ((with_reducible refine gate_dst (N := 3) rfl ?_); refine bE 3 #[.int .i64 a0_0, .int .i64 a0_1, .bool a0_2] 23 ?_; intro gb699 hg w5 hbox hb; have BK699 := Aside0.mk (hbox); have GW699 := bG HB hg; have GE699 := bG HB hg; replace HB := bS HB hb; clear hb hbox hg) | ((with_reducible refine gate_dst (N := 5) rfl ?_); refine bE 5 #[.int .i64 a2_0, .int .i64 a2_1, .bool a2_2] 23 ?_; intro gb700 hg w6 hbox hb; have BK700 := Aside0.mk (hbox); have GW700 := bG HB hg; have GE700 := bG HB hg; replace HB := bS HB hb; have NB699_700 := bL BK699 hg; have NB700_699 := bR BK699 hg; replace BK699 := bB BK699 hb; clear hb hbox hg))
 (try simp only [Act.put, List.setIfInBounds_toArray, List.set_cons_zero, List.set_cons_succ])
 go_cut [22] (fun v22 wc => ∃ (kq : Nat) (x22_3 : Bool), v22 = .bool x22_3 ∧ Aside0 (impl_SigOk.j0 kq a1 x22_3 a0_0 a0_1 a0_2 a2_0 a2_1 a2_2 = some r) ∧ Aside0 (kq ≤ k) ∧ Aside0 (wc.heap[gb699]? = some (.cells #[.int .i64 a0_0, .int .i64 a0_1, .bool a0_2] 23 (0, 0))) ∧ Aside0 (wc.heap[gb700]? = some (.cells #[.int .i64 a2_0, .int .i64 a2_1, .bool a2_2] 23 (0, 0))) ∧ Aside0 (Below w.heap.size w wc))
 case first =>
  have H := HC4.out
  clear HC4
  by_cases c7 : a0_2 = true
  ·subst c7
   rw [if_pos rfl] at H
   have H' := Aside0.mk H
   clear H
   have hnb8 := NB699_700.out
   have hnc8 := NB700_699.out
   obtain ⟨hcz9_0, hcz9_1, hcz9_2, hfz9_0, hfz9_1, hfz9_2⟩ := bK3 (w := w6) BK699
   go_wp2
   go_meet
   case rel => exact ⟨_, (true), rS, H', ⟨by first | omega | exact Nat.le_refl _⟩, ⟨bP BK699⟩, ⟨bP BK700⟩, ⟨bZ HB⟩⟩
  ·replace c7 := Bool.eq_false_iff.mpr c7
   subst c7
   rw [if_neg (show ¬ (false = true) by decide)] at H
   by_cases c10 : a2_2 = true
   ·subst c10
    rw [if_pos rfl] at H
    have H' := Aside0.mk H
    clear H
    have hnb11 := NB699_700.out
    have hnc11 := NB700_699.out
    obtain ⟨hcz12_0, hcz12_1, hcz12_2, hfz12_0, hfz12_1, hfz12_2⟩ := bK3 (w := w6) BK699
    obtain ⟨hcz13_0, hcz13_1, hcz13_2, hfz13_0, hfz13_1, hfz13_2⟩ := bK3 (w := w6) BK700
    go_wp2
    go_meet
    case rel => exact ⟨_, (true), rS, H', ⟨by first | omega | exact Nat.le_refl _⟩, ⟨bP BK699⟩, ⟨bP BK700⟩, ⟨bZ HB⟩⟩
   ·replace c10 := Bool.eq_false_iff.mpr c10
    subst c10
    rw [if_neg (show ¬ (false = true) by decide)] at H
    replace H := Option.bind_eq_some_iff.mp H
    obtain ⟨t701, A140, H⟩ := H
    have A14 := Aside0.mk A140
    clear A140
    by_cases c15 : t701 = true
    ·subst c15
     rw [if_pos rfl] at H
     replace H := Option.bind_eq_some_iff.mp H
     obtain ⟨t702, A160, H⟩ := H
     have A16 := Aside0.mk A160
     clear A160
     have H' := Aside0.mk H
     clear H
     have hnb17 := NB699_700.out
     have hnc17 := NB700_699.out
     obtain ⟨hcz18_0, hcz18_1, hcz18_2, hfz18_0, hfz18_1, hfz18_2⟩ := bK3 (w := w6) BK699
     obtain ⟨hcz19_0, hcz19_1, hcz19_2, hfz19_0, hfz19_1, hfz19_2⟩ := bK3 (w := w6) BK700
     go_wp2_with (first | (go_at_call 67; (with_reducible refine (impl_InGroup.calls k a0_0 a0_1 false true _ A14.out).mono ?_); rintro e w20 ⟨rfl, hb⟩; replace BK699 := bB BK699 hb; replace BK700 := bB BK700 hb; replace HB := bS HB hb; (try clear hb); obtain ⟨hcz21_0, hcz21_1, hcz21_2, hfz21_0, hfz21_1, hfz21_2⟩ := bK3 (w := w20) BK700) | (go_at_call 67; (with_reducible refine (impl_InGroup.calls k a2_0 a2_1 false t702 _ A16.out).mono ?_); rintro e w22 ⟨rfl, hb⟩; replace BK699 := bB BK699 hb; replace BK700 := bB BK700 hb; replace HB := bS HB hb; (try clear hb)))
     go_meet
     case rel => exact ⟨_, (!t702), rS, H', ⟨by first | omega | exact Nat.le_refl _⟩, ⟨bP BK699⟩, ⟨bP BK700⟩, ⟨bZ HB⟩⟩
    ·replace c15 := Bool.eq_false_iff.mpr c15
     subst c15
     rw [if_neg (show ¬ (false = true) by decide)] at H
     have H' := Aside0.mk H
     clear H
     have hnb23 := NB699_700.out
     have hnc23 := NB700_699.out
     obtain ⟨hcz24_0, hcz24_1, hcz24_2, hfz24_0, hfz24_1, hfz24_2⟩ := bK3 (w := w6) BK699
     obtain ⟨hcz25_0, hcz25_1, hcz25_2, hfz25_0, hfz25_1, hfz25_2⟩ := bK3 (w := w6) BK700
     go_wp2_with (first | (go_at_call 67; (with_reducible refine (impl_InGroup.calls k a0_0 a0_1 false false _ A14.out).mono ?_); rintro e w26 ⟨rfl, hb⟩; replace BK699 := bB BK699 hb; replace BK700 := bB BK700 hb; replace HB := bS HB hb; (try clear hb)))
     go_meet
     case rel => exact ⟨_, (true), rS, H', ⟨by first | omega | exact Nat.le_refl _⟩, ⟨bP BK699⟩, ⟨bP BK700⟩, ⟨bZ HB⟩⟩
 case rest =>
  clear HC4
  try clear c1
  try clear c2
  try clear p2
  try clear c7
  try clear c8
  try clear c10
  try clear c11
  try clear c15
  try clear c17
  try clear c23
  try clear c24
  try clear hcz12_0
  try clear hcz12_1
  try clear hcz12_2
  try clear hcz13_0
  try clear hcz13_1
  try clear hcz13_2
  try clear hcz18_0
  try clear hcz18_1
  try clear hcz18_2
  try clear hcz19_0
  try clear hcz19_1
  try clear hcz19_2
  try clear hcz21_0
  try clear hcz21_1
  try clear hcz21_2
  try clear hcz24_0
  try clear hcz24_1
  try clear hcz24_2
  try clear hcz25_0
  try clear hcz25_1
  try clear hcz25_2
  try clear hcz9_0
  try clear hcz9_1
  try clear hcz9_2
  try clear hfz12_0
  try clear hfz12_1
  try clear hfz12_2
  try clear hfz13_0
  try clear hfz13_1
  try clear hfz13_2
  try clear hfz18_0
  try clear hfz18_1
  try clear hfz18_2
  try clear hfz19_0
  try clear hfz19_1
  try clear hfz19_2
  try clear hfz21_0
  try clear hfz21_1
  try clear hfz21_2
  try clear hfz24_0
  try clear hfz24_1
  try clear hfz24_2
  try clear hfz25_0
  try clear hfz25_1
  try clear hfz25_2
  try clear hfz9_0
  try clear hfz9_1
  try clear hfz9_2
  obtain ⟨kq, x22_3, rfl, HA, HJ3, BK699, BK700, HB⟩ := hcut
  cases kq with
  | zero => exact absurd HA.out (by simp [impl_SigOk.j0])
  | succ kj3 =>
   have H := HA.out
   clear HA
   simp only [impl_SigOk.j0] at H
   by_cases c27 : x22_3 = true
   ·subst c27
    rw [if_pos rfl] at H
    obtain rfl := Option.some.inj H
    go_wp2
    go_ret
    exact ⟨rR, bZ HB⟩
   ·replace c27 := Bool.eq_false_iff.mpr c27
    subst c27
    rw [if_neg (show ¬ (false = true) by decide)] at H
    replace H := Option.bind_eq_some_iff.mp H
    obtain ⟨⟨t703, t704, t705⟩, A280, H⟩ := H
    have A28 := Aside0.mk A280
    clear A280
    replace H := Option.bind_eq_some_iff.mp H
    obtain ⟨⟨t706, t707⟩, A290, H⟩ := H
    have A29 := Aside0.mk A290
    clear A290
    replace H := Option.bind_eq_some_iff.mp H
    obtain ⟨⟨t708, t709, t710⟩, A300, H⟩ := H
    have A30 := Aside0.mk A300
    clear A300
    replace H := Option.bind_eq_some_iff.mp H
    obtain ⟨⟨t711, t712⟩, A310, H⟩ := H
    have A31 := Aside0.mk A310
    clear A310
    obtain rfl := Option.some.inj H
    try go_wp2
    replace BK699 := Aside0.mk (blk_drew BK699.out)
    replace BK700 := Aside0.mk (blk_drew BK700.out)
    replace HB := Aside0.mk (below_drew1 HB.out)
    refine start_ (n := 9) (S := fun w' => w'.cell? ⟨gb700, 0, none⟩ = some (.int .i64 a2_0) ∧ w'.cell? ⟨gb700, 1, none⟩ = some (.int .i64 a2_1) ∧ w'.cell? ⟨gb700, 2, none⟩ = some (.bool a2_2) ∧ w'.cell? ⟨gb699, 0, none⟩ = some (.int .i64 a0_0) ∧ w'.cell? ⟨gb699, 1, none⟩ = some (.int .i64 a0_1) ∧ w'.cell? ⟨gb699, 2, none⟩ = some (.bool a0_2)) (ds := []) #[false, false, false, false, false, false, false, false, false] (by kernel_rfl) rfl rfl ⟨bc BK700 0, bc BK700 1, bc BK700 2, bc BK699 0, bc BK699 1, bc BK699 2⟩ (fun hHeld => ?_); refine with_tabW impl_SigOk.tab3 impl_SigOk.bits3 (fun HT_ HW_ => ?_)
    generalize wc.drew = w32 at BK699 BK700 HB hHeld ⊢
    refine pI 3 (some 26) HT_.out ?_
    refine tI6 0 (some 23) HT_.out HW_.out hHeld ?_
    refine tI6 5 (some 28) HT_.out HW_.out hHeld ?_
    refine oI 1 (some 24) HT_.out (fun K hK => ?_)
    refine gO Tryd.func52 #[] ?_
    with_reducible refine (impl_Base.calls  t703 t704 t705 _ A28.out).mono ?_
    rintro e w33 ⟨rfl, hb⟩
    refine ⟨_, rfl, ?_⟩
    replace BK699 := bB BK699 hb
    replace BK700 := bB BK700 hb
    replace HB := bS HB hb
    (try clear hb)
    refine hK.out _ _ ⟨bc BK700 0, bc BK700 1, bc BK700 2, bc BK699 0, bc BK699 1, bc BK699 2⟩ (fun hHeld => ?_)
    clear hK K
    refine nO (some 24) ?_
    refine oI 2 (some 25) HT_.out (fun K hK => ?_)
    refine gO Tryd.func68 #[.agg #[.int .i64 a2_0, .int .i64 a2_1, .bool a2_2], .agg #[.int .i64 t703, .int .i64 t704, .bool t705]] ?_
    with_reducible refine (impl_Pairing.calls kj3 a2_0 a2_1 a2_2 t703 t704 t705 t706 t707 _ A29.out).mono ?_
    rintro e w34 ⟨rfl, hb⟩
    refine ⟨_, rfl, ?_⟩
    replace BK699 := bB BK699 hb
    replace BK700 := bB BK700 hb
    replace HB := bS HB hb
    (try clear hb)
    refine hK.out _ _ ⟨bc BK700 0, bc BK700 1, bc BK700 2, bc BK699 0, bc BK699 1, bc BK699 2⟩ (fun hHeld => ?_)
    clear hK K
    refine nO (some 25) ?_
    refine oI 4 (some 27) HT_.out (fun K hK => ?_)
    refine gO Tryd.func11 #[.string a1] ?_
    with_reducible refine (impl_HashPoint.calls kj3 a1 t708 t709 t710 _ (Kp.Tab.below HT.out (bZ HB)) A30.out).mono ?_
    rintro e w35 ⟨rfl, hb⟩
    refine ⟨_, rfl, ?_⟩
    replace BK699 := bB BK699 hb
    replace BK700 := bB BK700 hb
    replace HB := bS HB hb
    (try clear hb)
    refine hK.out _ _ ⟨bc BK700 0, bc BK700 1, bc BK700 2, bc BK699 0, bc BK699 1, bc BK699 2⟩ (fun hHeld => ?_)
    clear hK K
    refine nO (some 27) ?_
    refine oI 6 (some 29) HT_.out (fun K hK => ?_)
    refine gO Tryd.func68 #[.agg #[.int .i64 t708, .int .i64 t709, .bool t710], .agg #[.int .i64 a0_0, .int .i64 a0_1, .bool a0_2]] ?_
    with_reducible refine (impl_Pairing.calls kj3 t708 t709 t710 a0_0 a0_1 a0_2 t711 t712 _ A31.out).mono ?_
    rintro e w36 ⟨rfl, hb⟩
    refine ⟨_, rfl, ?_⟩
    replace BK699 := bB BK699 hb
    replace BK700 := bB BK700 hb
    replace HB := bS HB hb
    (try clear hb)
    refine hK.out _ _ ⟨bc BK700 0, bc BK700 1, bc BK700 2, bc BK699 0, bc BK699 1, bc BK699 2⟩ (fun hHeld => ?_)
    clear hK K
    refine nO (some 29) ?_
    refine pI 7 (some 30) HT_.out ?_
    refine pI 8 (some 6) HT_.out ?_
    refine done_ (done_of HT_.out (by kernel_rfl)) ?_
    try go_wp2
    go_ret
    exact ⟨rR, bZ HB⟩
end Go.Proofs.YtkdmplfldfagnaaDoor.Pf
end
section
namespace Go.Proofs.YtkdmplfldfagnaaDoor.Pf
open Go.RowKit Go.Proofs.YtkdmplfldfagnaaDoorW.PrintWords Go.Proofs.YtkdmplfldfagnaaDoorW.PrintLast Go.Proofs.YtkdmplfldfagnaaDoorW.PrintMore
attribute [local go_sem] max2_int min2_int max_two min_two max_three min_three max_four min_four   -- for this text's walks alone
set_option linter.unusedVariables false
set_option linter.unusedSimpArgs false
/-! ### laws_FnExactSigOk: function 7 -/
def laws_FnExactSigOk.f (k : Nat) (a0_0 : Int) (a0_1 : Int) (a0_2 : Bool) (a1 : ByteArray) (a2_0 : Int) (a2_1 : Int) (a2_2 : Bool) : Option (Bool) := if (a1.size : Int) > 1048576 then (some true) else ((laws_toPoint.f a0_0 a0_1 a0_2).bind fun bt715 => ((laws_toPoint.f a2_0 a2_1 a2_2).bind fun bt718 => ((spec_SigOk.f k bt715.1 bt715.2.1 bt715.2.2 a1 bt718.1 bt718.2.1 bt718.2.2).bind fun t721 => ((laws_toPoint.f a0_0 a0_1 a0_2).bind fun bt722 => ((laws_toPoint.f a2_0 a2_1 a2_2).bind fun bt725 => ((impl_SigOk.f k bt722.1 bt722.2.1 bt722.2.2 a1 bt725.1 bt725.2.1 bt725.2.2).bind fun t728 => (if (t728 != t721) = true then (some false) else (some true))))))))
theorem laws_FnExactSigOk.mono : ∀ a0 a1 a2 a3 a4 a5 a6 k, LeO (laws_FnExactSigOk.f k a0 a1 a2 a3 a4 a5 a6) (laws_FnExactSigOk.f (k + 1) a0 a1 a2 a3 a4 a5 a6) := by
 intro a0 a1 a2 a3 a4 a5 a6 k
 unfold laws_FnExactSigOk.f
 repeat' first
   | (with_reducible exact impl_SigOk.mono _ _ _ _ _ _ _ _)
   | (with_reducible exact spec_SigOk.mono _ _ _ _ _ _ _ _)
   | (with_reducible exact LeO.refl _)
   | (with_reducible exact LeO.none _)
   | (with_reducible refine LeO.ite ?_ ?_)
   | (with_reducible refine LeO.bind ?_ (fun _ => ?_))
   | exact impl_SigOk.mono _ _ _ _ _ _ _ _
   | exact spec_SigOk.mono _ _ _ _ _ _ _ _
   | exact LeO.none _
   | refine LeO.ite ?_ ?_
   | refine LeO.bind ?_ (fun _ => ?_)
set_option maxHeartbeats 8000000 in
set_option maxRecDepth 100000 in
theorem laws_FnExactSigOk.calls (k : Nat) (a0_0 : Int) (a0_1 : Int) (a0_2 : Bool) (a1 : ByteArray) (a2_0 : Int) (a2_1 : Int) (a2_2 : Bool) (r : Bool) (w : World) (hT : Kp.Tab w) (htrue : Aside0 (r = true)) (h : laws_FnExactSigOk.f k a0_0 a0_1 a0_2 a1 a2_0 a2_1 a2_2 = some r) :
  Calls Tryd.prog 7 #[.agg #[.int .i64 a0_0, .int .i64 a0_1, .bool a0_2], .string a1, .agg #[.int .i64 a2_0, .int .i64 a2_1, .bool a2_2]] w fun e w' => e = .returned (.bool r) ∧ Below w.heap.size w w' := by
 have HT := Aside0.mk hT
 clear hT
 have hu42 := Tryd.underlying42
 have HB := Aside0.mk (Below.refl w.heap.size w)
 have H : (if (a1.size : Int) > 1048576 then (some true) else ((laws_toPoint.f a0_0 a0_1 a0_2).bind fun bt715 => ((laws_toPoint.f a2_0 a2_1 a2_2).bind fun bt718 => ((spec_SigOk.f k bt715.1 bt715.2.1 bt715.2.2 a1 bt718.1 bt718.2.1 bt718.2.2).bind fun t721 => ((laws_toPoint.f a0_0 a0_1 a0_2).bind fun bt722 => ((laws_toPoint.f a2_0 a2_1 a2_2).bind fun bt725 => ((impl_SigOk.f k bt722.1 bt722.2.1 bt722.2.2 a1 bt725.1 bt725.2.1 bt725.2.2).bind fun t728 => (if (t728 != t721) = true then (some false) else (some true))))))))) = some r := h
 clear h
 by_cases c4 : (a1.size : Int) > 1048576
 ·rw [if_pos c4] at H
  have c4b0 : decide (1048576 < (a1.size : Int)) = true := decide_eq_true c4
  have c4b1 : decide (1048576 < a1.size) = true := decide_eq_true (by omega)
  clear c4
  obtain rfl := Option.some.inj H
  go_enter Tryd.func7, Tryd.ntmps7
  go_wp2_with (first | ((with_reducible refine gate_dst (N := 3) rfl ?_); refine bE 3 #[.int .i64 a0_0, .int .i64 a0_1, .bool a0_2] 42 ?_; intro gb713 hg w5 hbox hb; have BK713 := Aside0.mk (hbox); have GW713 := bG HB hg; have GE713 := bG HB hg; replace HB := bS HB hb; clear hb hbox hg) | ((with_reducible refine gate_dst (N := 5) rfl ?_); refine bE 5 #[.int .i64 a2_0, .int .i64 a2_1, .bool a2_2] 42 ?_; intro gb714 hg w6 hbox hb; have BK714 := Aside0.mk (hbox); have GW714 := bG HB hg; have GE714 := bG HB hg; replace HB := bS HB hb; have NB713_714 := bL BK713 hg; have NB714_713 := bR BK713 hg; replace BK713 := bB BK713 hb; clear hb hbox hg))
  go_ret
  exact ⟨rR, bZ HB⟩
 ·rw [if_neg c4] at H
  have c4b0 : decide (1048576 < (a1.size : Int)) = false := decide_eq_false c4
  have c4b1 : decide (1048576 < a1.size) = false := decide_eq_false (by omega)
  clear c4
  replace H := Option.bind_eq_some_iff.mp H
  obtain ⟨⟨t715, t716, t717⟩, A70, H⟩ := H
  have A7 := Aside0.mk A70
  clear A70
  replace H := Option.bind_eq_some_iff.mp H
  obtain ⟨⟨t718, t719, t720⟩, A80, H⟩ := H
  have A8 := Aside0.mk A80
  clear A80
  replace H := Option.bind_eq_some_iff.mp H
  obtain ⟨t721, A90, H⟩ := H
  have A9 := Aside0.mk A90
  clear A90
  replace H := Option.bind_eq_some_iff.mp H
  obtain ⟨⟨t722, t723, t724⟩, A100, H⟩ := H
  have A10 := Aside0.mk A100
  clear A100
  replace H := Option.bind_eq_some_iff.mp H
  obtain ⟨⟨t725, t726, t727⟩, A110, H⟩ := H
  have A11 := Aside0.mk A110
  clear A110
  replace H := Option.bind_eq_some_iff.mp H
  obtain ⟨t728, A120, H⟩ := H
  have A12 := Aside0.mk A120
  clear A120
  by_cases c13 : (t728 != t721) = true
  ·rw [if_pos c13] at H
   have c13b0 : (t728 != t721) = true := c13
   (try (have c13b1 : decide (t728 = t721) = false := by simpa using c13))
   (try (have c13b2 : (t728 == t721) = false := by simpa using c13))
   (try (have c13b3 : ¬ (t728 = t721) := by simpa using c13))
   clear c13
   exact absurd (Option.some.inj H) (by rw [htrue.out]; exact Bool.false_ne_true)
  ·rw [if_neg c13] at H
   have c13b0 : (t728 != t721) = false := by simpa using c13
   (try (have c13b1 : decide (t728 = t721) = true := by simpa using c13))
   (try (have c13b2 : (t728 == t721) = true := by simpa using c13))
   clear c13
   obtain rfl := Option.some.inj H
   go_enter Tryd.func7, Tryd.ntmps7
   try go_wp2_with (first | ((with_reducible refine gate_dst (N := 3) rfl ?_); refine bE 3 #[.int .i64 a0_0, .int .i64 a0_1, .bool a0_2] 42 ?_; intro gb713 hg w14 hbox hb; have BK713 := Aside0.mk (hbox); have GW713 := bG HB hg; have GE713 := bG HB hg; replace HB := bS HB hb; clear hb hbox hg) | ((with_reducible refine gate_dst (N := 5) rfl ?_); refine bE 5 #[.int .i64 a2_0, .int .i64 a2_1, .bool a2_2] 42 ?_; intro gb714 hg w15 hbox hb; have BK714 := Aside0.mk (hbox); have GW714 := bG HB hg; have GE714 := bG HB hg; replace HB := bS HB hb; have NB713_714 := bL BK713 hg; have NB714_713 := bR BK713 hg; replace BK713 := bB BK713 hb; clear hb hbox hg))
   replace BK713 := Aside0.mk (blk_drew BK713.out)
   replace BK714 := Aside0.mk (blk_drew BK714.out)
   replace HB := Aside0.mk (below_drew1 HB.out)
   refine start_ (n := 7) (S := fun w' => w'.cell? ⟨gb713, 0, none⟩ = some (.int .i64 a0_0) ∧ w'.cell? ⟨gb713, 1, none⟩ = some (.int .i64 a0_1) ∧ w'.cell? ⟨gb713, 2, none⟩ = some (.bool a0_2) ∧ w'.cell? ⟨gb714, 0, none⟩ = some (.int .i64 a2_0) ∧ w'.cell? ⟨gb714, 1, none⟩ = some (.int .i64 a2_1) ∧ w'.cell? ⟨gb714, 2, none⟩ = some (.bool a2_2)) (ds := []) #[false, false, false, false, false, false, false] (by kernel_rfl) rfl rfl ⟨bc BK713 0, bc BK713 1, bc BK713 2, bc BK714 0, bc BK714 1, bc BK714 2⟩ (fun hHeld => ?_)
   generalize w15.drew = w16 at BK713 BK714 HB hHeld ⊢
   refine pure_ (i := 2) (N := some 14) (v := ?_) (a' := ?_) #[false, false, true, false, false, false, false] rfl rfl (by kernel_rfl) (fun _ _ _ h => h) (Or.inl ⟨by rfl, ?_⟩) ?_ ?_
   rotate_left
   ·intro w'
    go_simp
    with_reducible rfl
   rotate_left
   ·simp only [Act.put, List.setIfInBounds_toArray, List.set_cons_zero, List.set_cons_succ, i64_w, i32_w]
    rfl
   refine take_ (i := 0) (N := some 12) (v := ?_) (a' := ?_) #[true, false, true, false, false, false, false] rfl rfl (by kernel_rfl) (fun _ _ _ h => h) (Or.inl ⟨by rfl, ?_⟩) hHeld ?_ ?_
   rotate_left
   ·rintro w' ⟨s0, s1, s2, s3, s4, s5⟩
    go_simp
    with_reducible rfl
   rotate_left
   ·simp only [Act.put, List.setIfInBounds_toArray, List.set_cons_zero, List.set_cons_succ, i64_w, i32_w]
    rfl
   refine take_ (i := 3) (N := some 15) (v := ?_) (a' := ?_) #[true, false, true, true, false, false, false] rfl rfl (by kernel_rfl) (fun _ _ _ h => h) (Or.inl ⟨by rfl, ?_⟩) hHeld ?_ ?_
   rotate_left
   ·rintro w' ⟨s0, s1, s2, s3, s4, s5⟩
    go_simp
    with_reducible rfl
   rotate_left
   ·simp only [Act.put, List.setIfInBounds_toArray, List.set_cons_zero, List.set_cons_succ, i64_w, i32_w]
    rfl
   refine one_ (i := 1) (N := some 13) #[true, true, true, true, false, false, false] rfl rfl (by kernel_rfl) (by decide) (fun K hK => ?_)
   refine gO Tryd.func23 #[.agg #[.int .i64 a0_0, .int .i64 a0_1, .bool a0_2]] ?_
   with_reducible refine (laws_toPoint.calls a0_0 a0_1 a0_2 t715 t716 t717 _ A7.out).mono ?_
   rintro e w17 ⟨rfl, hb⟩
   refine ⟨_, rfl, ?_⟩
   replace BK713 := bB BK713 hb
   replace BK714 := bB BK714 hb
   replace HB := bS HB hb
   (try clear hb)
   refine hK.out _ _ ⟨bc BK713 0, bc BK713 1, bc BK713 2, bc BK714 0, bc BK714 1, bc BK714 2⟩ (fun hHeld => ?_)
   clear hK K
   refine nO (some 13) ?_
   refine one_ (i := 4) (N := some 16) #[true, true, true, true, true, false, false] rfl rfl (by kernel_rfl) (by decide) (fun K hK => ?_)
   refine gO Tryd.func23 #[.agg #[.int .i64 a2_0, .int .i64 a2_1, .bool a2_2]] ?_
   with_reducible refine (laws_toPoint.calls a2_0 a2_1 a2_2 t718 t719 t720 _ A8.out).mono ?_
   rintro e w18 ⟨rfl, hb⟩
   refine ⟨_, rfl, ?_⟩
   replace BK713 := bB BK713 hb
   replace BK714 := bB BK714 hb
   replace HB := bS HB hb
   (try clear hb)
   refine hK.out _ _ ⟨bc BK713 0, bc BK713 1, bc BK713 2, bc BK714 0, bc BK714 1, bc BK714 2⟩ (fun hHeld => ?_)
   clear hK K
   refine nO (some 16) ?_
   refine one_ (i := 5) (N := some 17) #[true, true, true, true, true, true, false] rfl rfl (by kernel_rfl) (by decide) (fun K hK => ?_)
   refine gO Tryd.func22 #[.agg #[.int .i64 t715, .int .i64 t716, .bool t717], .string a1, .agg #[.int .i64 t718, .int .i64 t719, .bool t720]] ?_
   with_reducible refine (spec_SigOk.calls k t715 t716 t717 a1 t718 t719 t720 t721 _ A9.out).mono ?_
   rintro e w19 ⟨rfl, hb⟩
   refine ⟨_, rfl, ?_⟩
   replace BK713 := bB BK713 hb
   replace BK714 := bB BK714 hb
   replace HB := bS HB hb
   (try clear hb)
   refine hK.out _ _ ⟨bc BK713 0, bc BK713 1, bc BK713 2, bc BK714 0, bc BK714 1, bc BK714 2⟩ (fun hHeld => ?_)
   clear hK K
   refine nO (some 17) ?_
   refine pure_ (i := 6) (N := some 7) (v := ?_) (a' := ?_) #[true, true, true, true, true, true, true] rfl rfl (by kernel_rfl) (fun _ _ _ h => h) (Or.inl ⟨by rfl, ?_⟩) ?_ ?_
   rotate_left
   ·intro w'
    go_simp
    with_reducible rfl
   rotate_left
   ·simp only [Act.put, List.setIfInBounds_toArray, List.set_cons_zero, List.set_cons_succ, i64_w, i32_w]
    rfl
   refine done_ (by kernel_rfl) ?_
   try go_wp2
   replace BK713 := Aside0.mk (blk_drew BK713.out)
   replace BK714 := Aside0.mk (blk_drew BK714.out)
   replace HB := Aside0.mk (below_drew1 HB.out)
   refine start_ (n := 7) (S := fun w' => w'.cell? ⟨gb713, 0, none⟩ = some (.int .i64 a0_0) ∧ w'.cell? ⟨gb713, 1, none⟩ = some (.int .i64 a0_1) ∧ w'.cell? ⟨gb713, 2, none⟩ = some (.bool a0_2) ∧ w'.cell? ⟨gb714, 0, none⟩ = some (.int .i64 a2_0) ∧ w'.cell? ⟨gb714, 1, none⟩ = some (.int .i64 a2_1) ∧ w'.cell? ⟨gb714, 2, none⟩ = some (.bool a2_2)) (ds := []) #[false, false, false, false, false, false, false] (by kernel_rfl) rfl rfl ⟨bc BK713 0, bc BK713 1, bc BK713 2, bc BK714 0, bc BK714 1, bc BK714 2⟩ (fun hHeld => ?_)
   generalize w19.drew = w20 at BK713 BK714 HB hHeld ⊢
   refine pure_ (i := 2) (N := some 20) (v := ?_) (a' := ?_) #[false, false, true, false, false, false, false] rfl rfl (by kernel_rfl) (fun _ _ _ h => h) (Or.inl ⟨by rfl, ?_⟩) ?_ ?_
   rotate_left
   ·intro w'
    go_simp
    with_reducible rfl
   rotate_left
   ·simp only [Act.put, List.setIfInBounds_toArray, List.set_cons_zero, List.set_cons_succ, i64_w, i32_w]
    rfl
   refine take_ (i := 0) (N := some 18) (v := ?_) (a' := ?_) #[true, false, true, false, false, false, false] rfl rfl (by kernel_rfl) (fun _ _ _ h => h) (Or.inl ⟨by rfl, ?_⟩) hHeld ?_ ?_
   rotate_left
   ·rintro w' ⟨s0, s1, s2, s3, s4, s5⟩
    go_simp
    with_reducible rfl
   rotate_left
   ·simp only [Act.put, List.setIfInBounds_toArray, List.set_cons_zero, List.set_cons_succ, i64_w, i32_w]
    rfl
   refine take_ (i := 3) (N := some 21) (v := ?_) (a' := ?_) #[true, false, true, true, false, false, false] rfl rfl (by kernel_rfl) (fun _ _ _ h => h) (Or.inl ⟨by rfl, ?_⟩) hHeld ?_ ?_
   rotate_left
   ·rintro w' ⟨s0, s1, s2, s3, s4, s5⟩
    go_simp
    with_reducible rfl
   rotate_left
   ·simp only [Act.put, List.setIfInBounds_toArray, List.set_cons_zero, List.set_cons_succ, i64_w, i32_w]
    rfl
   refine one_ (i := 1) (N := some 19) #[true, true, true, true, false, false, false] rfl rfl (by kernel_rfl) (by decide) (fun K hK => ?_)
   refine gO Tryd.func23 #[.agg #[.int .i64 a0_0, .int .i64 a0_1, .bool a0_2]] ?_
   with_reducible refine (laws_toPoint.calls a0_0 a0_1 a0_2 t722 t723 t724 _ A10.out).mono ?_
   rintro e w21 ⟨rfl, hb⟩
   refine ⟨_, rfl, ?_⟩
   replace BK713 := bB BK713 hb
   replace BK714 := bB BK714 hb
   replace HB := bS HB hb
   (try clear hb)
   refine hK.out _ _ ⟨bc BK713 0, bc BK713 1, bc BK713 2, bc BK714 0, bc BK714 1, bc BK714 2⟩ (fun hHeld => ?_)
   clear hK K
   refine nO (some 19) ?_
   refine one_ (i := 4) (N := some 22) #[true, true, true, true, true, false, false] rfl rfl (by kernel_rfl) (by decide) (fun K hK => ?_)
   refine gO Tryd.func23 #[.agg #[.int .i64 a2_0, .int .i64 a2_1, .bool a2_2]] ?_
   with_reducible refine (laws_toPoint.calls a2_0 a2_1 a2_2 t725 t726 t727 _ A11.out).mono ?_
   rintro e w22 ⟨rfl, hb⟩
   refine ⟨_, rfl, ?_⟩
   replace BK713 := bB BK713 hb
   replace BK714 := bB BK714 hb
   replace HB := bS HB hb
   (try clear hb)
   refine hK.out _ _ ⟨bc BK713 0, bc BK713 1, bc BK713 2, bc BK714 0, bc BK714 1, bc BK714 2⟩ (fun hHeld => ?_)
   clear hK K
   refine nO (some 22) ?_
   refine one_ (i := 5) (N := some 23) #[true, true, true, true, true, true, false] rfl rfl (by kernel_rfl) (by decide) (fun K hK => ?_)
   refine gO Tryd.func24 #[.agg #[.int .i64 t722, .int .i64 t723, .bool t724], .string a1, .agg #[.int .i64 t725, .int .i64 t726, .bool t727]] ?_
   with_reducible refine (impl_SigOk.calls k t722 t723 t724 a1 t725 t726 t727 t728 _ (Kp.Tab.below HT.out (bZ HB)) A12.out).mono ?_
   rintro e w23 ⟨rfl, hb⟩
   refine ⟨_, rfl, ?_⟩
   replace BK713 := bB BK713 hb
   replace BK714 := bB BK714 hb
   replace HB := bS HB hb
   (try clear hb)
   refine hK.out _ _ ⟨bc BK713 0, bc BK713 1, bc BK713 2, bc BK714 0, bc BK714 1, bc BK714 2⟩ (fun hHeld => ?_)
   clear hK K
   refine nO (some 23) ?_
   refine pure_ (i := 6) (N := some 8) (v := ?_) (a' := ?_) #[true, true, true, true, true, true, true] rfl rfl (by kernel_rfl) (fun _ _ _ h => h) (Or.inl ⟨by rfl, ?_⟩) ?_ ?_
   rotate_left
   ·intro w'
    go_simp
    with_reducible rfl
   rotate_left
   ·simp only [Act.put, List.setIfInBounds_toArray, List.set_cons_zero, List.set_cons_succ, i64_w, i32_w]
    rfl
   refine done_ (by kernel_rfl) ?_
   try go_wp2
   go_ret
   exact ⟨rR, bZ HB⟩

/-- THE ONE PURE STATEMENT of laws_FnExactSigOk. -/
def laws_FnExactSigOk.Pure : Prop := ∀ (a0_0 : Int) (a0_1 : Int) (a0_2 : Bool) (a1 : ByteArray) (a2_0 : Int) (a2_1 : Int) (a2_2 : Bool), (Lit.int .i64 a0_0).wf = true → (Lit.int .i64 a0_1).wf = true → a1.size ≤ 140737488351232 → (Lit.int .i64 a2_0).wf = true → (Lit.int .i64 a2_1).wf = true → ∃ k, laws_FnExactSigOk.f k a0_0 a0_1 a0_2 a1 a2_0 a2_1 a2_2 = some true
end Go.Proofs.YtkdmplfldfagnaaDoor.Pf
end
section
/- What is proved here: the points of the curve y*y = x*x*x + x over the numbers modulo 12107 make a commutative group. No conditions but that points lie on the curve. -/
namespace Go.Proofs.YtkdmplfldfagnaaDoor.Crv
set_option linter.unusedVariables false
set_option linter.unusedSimpArgs false
abbrev F := Fin 12107

/-! the inverse -/
def pwl : Nat → F → Nat → F → F
  | 0, _, _, out => out
  | k + 1, a, n, out => if n = 0 then out else pwl k (a * a) (n / 2) (if n % 2 = 1 then out * a else out)
def inv (a : F) : F := pwl 14 a 12105 1
def npwl : Nat → Nat → Nat → Nat → Nat
  | 0, _, _, out => out
  | k + 1, a, n, out => npwl k (a * a % 12107) (n / 2) (cond (Nat.beq (n % 2) 1) (out * a % 12107) out)
theorem npwl_zero : ∀ (k a out : Nat), npwl k a 0 out = out
  | 0, _, _ => rfl
  | k + 1, a, out => by rw [npwl]; exact npwl_zero k _ _
theorem pwl_val : ∀ (k : Nat) (a : F) (n : Nat) (out : F), (pwl k a n out).val = npwl k a.val n out.val
  | 0, _, _, _ => rfl
  | k + 1, a, n, out => by
    rw [pwl, npwl]
    by_cases h : n = 0
    · subst h
      rw [if_pos rfl]
      have : npwl k (a.val * a.val % 12107) (0 / 2) (cond (Nat.beq (0 % 2) 1) (out.val * a.val % 12107) out.val) = out.val := npwl_zero _ _ _
      rw [this]
    · rw [if_neg h, pwl_val k]
      by_cases h2 : n % 2 = 1
      · rw [if_pos h2, h2]; rfl
      · rw [if_neg h2, show n % 2 = 0 by omega]; rfl
def all2 (f : Nat → Bool) : Nat → Nat → Bool
  | 0, i => f i
  | k + 1, i => cond (all2 f k i) (all2 f k (i + 2 ^ k)) false
theorem all2_ok (f : Nat → Bool) : ∀ (k i : Nat), all2 f k i = true → ∀ j, i ≤ j → j < i + 2 ^ k → f j = true
  | 0, i, h, j, h1, h2 => by
    rw [all2] at h
    have : j = i := by simp at h2; omega
    rw [this]; exact h
  | k + 1, i, h, j, h1, h2 => by
    rw [all2] at h
    cases e : all2 f k i with
    | false => rw [e] at h; cases h
    | true =>
      rw [e] at h
      rw [Nat.pow_succ] at h2
      by_cases c : j < i + 2 ^ k
      · exact all2_ok f k i e j h1 c
      · exact all2_ok f k (i + 2 ^ k) h j (by omega) (by omega)
def invchk (n : Nat) : Bool := cond (Nat.ble 12107 n) true (cond (Nat.beq n 0) (Nat.beq (npwl 14 0 12105 1) 0) (Nat.beq (n * npwl 14 n 12105 1 % 12107) 1))
theorem invchk_all : all2 invchk 14 0 = true := by decide +kernel
theorem mul_inv (a : F) (h : a ≠ 0) : a * inv a = 1 := by
  have h1 := all2_ok invchk 14 0 invchk_all a.val (by omega) (by have := a.isLt; omega)
  unfold invchk at h1
  have h2 : ¬ a.val = 0 := fun e => h (Fin.ext e)
  have h3 := a.isLt
  rw [show Nat.ble 12107 a.val = false by rw [← Bool.not_eq_true, Nat.ble_eq]; omega, show Nat.beq a.val 0 = false by rw [← Bool.not_eq_true, Nat.beq_eq]; exact h2] at h1
  have h4 := Nat.eq_of_beq_eq_true h1
  apply Fin.ext
  show a.val * (inv a).val % 12107 = 1
  rw [inv, pwl_val]; exact h4
theorem inv_zero : inv 0 = 0 := by
  apply Fin.ext; rw [inv, pwl_val]; decide +kernel
theorem mul_zero_cases (a b : F) (h : a * b = 0) : a = 0 ∨ b = 0 := by
  by_cases c : a = 0
  · exact Or.inl c
  · right
    have h1 := mul_inv a c
    generalize inv a = i at h1
    grobner
theorem cancel (a b c : F) (ha : a ≠ 0) (h : a * b = a * c) : b = c := by
  have h1 := mul_inv a ha
  generalize inv a = i at h1
  grobner
theorem two_ne : (2 : F) ≠ 0 := by decide
theorem dbl_zero (a : F) (h : a + a = 0) : a = 0 := by
  rcases mul_zero_cases 2 a (by grobner) with h1 | h1
  · exact absurd h1 two_ne
  · exact h1

/-! lines -/
def Ln (a a' b b' l : F) : Prop := a' - b' = l*(a-b) ∧ l*(a'+b') = a*a+a*b+b*b+1
def On (a a' : F) : Prop := a'*a' = a*a*a + a
theorem On.neg {a a' : F} (h : On a a') : On a (-a') := by unfold On at *; grobner
/-- the points are each other's negatives -/
def Up (a a' b b' : F) : Prop := a = b ∧ a' + b' = 0
theorem Ln.symm {a a' b b' l : F} (h : Ln a a' b b' l) : Ln b b' a a' l := by
  obtain ⟨h1, h2⟩ := h; constructor <;> grobner
theorem Ln.flip {a a' b b' l : F} (h : Ln a a' b b' l) : Ln a (-a') b (-b') (-l) := by
  obtain ⟨h1, h2⟩ := h; constructor <;> grobner
theorem same_x {a a' b' : F} (ha : On a a') (hb : On a b') : a' = b' ∨ a' + b' = 0 := by
  unfold On at *
  rcases mul_zero_cases (a' - b') (a' + b') (by grobner) with h | h
  · left; grobner
  · exact Or.inr h
/-- no point is flat -/
theorem not_flat {a : F} (ha : On a 0) (h : 3 * (a * a) + 1 = 0) : False := by
  unfold On at ha
  have h1 : a * (a * a + 1) = 0 := by grobner
  rcases mul_zero_cases _ _ h1 with h2 | h2
  · subst h2; exact absurd h (by decide)
  · have h3 : (2 : F) = 0 := by grobner
    exact two_ne h3
theorem Ln.unique {a a' b b' l m : F} (h : Ln a a' b b' l) (g : Ln a a' b b' m) (ha : On a a') (hb : On b b') (hu : ¬ Up a a' b b') : l = m := by
  obtain ⟨h1, h2⟩ := h
  obtain ⟨g1, g2⟩ := g
  by_cases c : a - b = 0
  · have e : a = b := by grobner
    subst e
    have hn : a' + b' ≠ 0 := fun e => hu ⟨rfl, e⟩
    exact cancel (a' + b') l m hn (by grobner)
  · exact cancel (a - b) l m c (by grobner)
theorem third_on {a a' b b' l s s' : F} (ha : On a a') (hl : Ln a a' b b' l) (hs : s = l*l - a - b) (hs' : s' = l*(a-s) - a') : On s s' := by
  unfold On Ln at *
  obtain ⟨h1, h2⟩ := hl
  subst hs hs'
  grobner
theorem third_ln {a a' b b' l s s' : F} (hl : Ln a a' b b' l) (hs : s = l*l - a - b) (hs' : s' = l*(a-s) - a') : Ln a a' s (-s') l := by
  unfold Ln at *
  obtain ⟨h1, h2⟩ := hl
  subst hs hs'
  constructor <;> grobner
theorem third_ln' {a a' b b' l s s' : F} (hl : Ln a a' b b' l) (hs : s = l*l - a - b) (hs' : s' = l*(a-s) - a') : Ln b b' s (-s') l := by
  unfold Ln at *
  obtain ⟨h1, h2⟩ := hl
  subst hs hs'
  constructor <;> grobner
theorem third_y {a a' b b' l s s' : F} (hl : Ln a a' b b' l) (hs' : s' = l*(a-s) - a') : s' = l*(b-s) - b' := by
  obtain ⟨h1, h2⟩ := hl
  clear h2
  grobner
/-- the two products of lines have one quotient: its sum of slopes -/
theorem key {a a' b b' c c' l1 l2 l3 s s' : F} (hb : On b b') (h1 : Ln a a' b b' l1) (hs : s = l1*l1 - a - b) (hs' : s' = l1*(a-s) - a')
    (h2 : Ln s s' c c' l2) (h3 : Ln b b' c c' l3) (hu : ¬ Up b b' c c') (hc : On c c') : (l1 + l2) * (l1 - l3) = a - c := by
  have t := third_ln' h1 hs hs'
  have e : b + c + s + l1*l2 = (l1+l2)*l3 := by
    obtain ⟨t1, t2⟩ := t
    obtain ⟨u1, u2⟩ := h2
    obtain ⟨v1, v2⟩ := h3
    clear h1 hs hs'
    by_cases d : b - c = 0
    · have e : b = c := by grobner
      subst e
      rcases same_x hb hc with e | e
      · subst e
        have n : b' + b' ≠ 0 := fun e => hu ⟨rfl, e⟩
        refine cancel (b' + b') _ _ n ?_
        unfold On at *
        grobner
      · exact absurd ⟨rfl, e⟩ hu
    · refine cancel (b - c) _ _ d ?_
      grobner
  subst hs
  grobner
theorem assoc_x {a a' b b' c c' l1 l2 l3 l4 s s' t t' : F} (ha : On a a') (hb : On b b') (hc : On c c')
    (h1 : Ln a a' b b' l1) (hs : s = l1*l1 - a - b) (hs' : s' = l1*(a-s) - a')
    (h2 : Ln s s' c c' l2) (h3 : Ln b b' c c' l3) (ht : t = l3*l3 - b - c) (ht' : t' = l3*(b-t) - b')
    (h4 : Ln a a' t t' l4) (hab : ¬ Up a a' b b') (hbc : ¬ Up b b' c c') (hac : a ≠ c) : l1 + l2 = l3 + l4 ∧ (l1 + l2) * (l1 - l3) = a - c := by
  have k1 := key hb h1 hs hs' h2 h3 hbc hc
  have hu' : ¬ Up b b' a a' := fun ⟨e1, e2⟩ => hab ⟨e1.symm, by grobner⟩
  have k2 := key (a := c) (a' := c') (c := a) (c' := a') (l1 := l3) (l2 := l4) (l3 := l1) (s := t) (s' := t') hb h3.symm (by rw [ht]; grobner) (third_y h3 ht') h4.symm h1.symm hu' ha
  refine ⟨?_, k1⟩
  have n : l1 - l3 ≠ 0 := by
    intro e
    rw [e] at k1
    apply hac
    grobner
  exact cancel (l1 - l3) _ _ n (by grobner)

/-! points -/
inductive Pt where
  | O : Pt
  | P (x y : F) : Pt

open Pt
def Ok : Pt → Prop
  | O => True
  | P x y => On x y
def neg : Pt → Pt
  | O => O
  | P x y => P x (-y)
def slope (x y x' y' : F) : F := if x = x' then (3 * (x * x) + 1) * inv (2 * y) else (y' - y) * inv (x' - x)
instance (a a' b b' : F) : Decidable (Up a a' b b') := by unfold Up; infer_instance
def add : Pt → Pt → Pt
  | O, q => q
  | P x y, O => P x y
  | P x y, P x' y' => if Up x y x' y' then O else P (slope x y x' y' * slope x y x' y' - x - x') (slope x y x' y' * (x - (slope x y x' y' * slope x y x' y' - x - x')) - y)
theorem slope_ln {a a' b b' : F} (ha : On a a') (hb : On b b') (hu : ¬ Up a a' b b') : Ln a a' b b' (slope a a' b b') := by
  unfold slope
  by_cases c : a = b
  · subst c
    rw [if_pos rfl]
    rcases same_x ha hb with e | e
    · subst e
      have n : 2 * a' ≠ 0 := fun e => hu ⟨rfl, by grobner⟩
      have i := mul_inv _ n
      generalize inv (2 * a') = j at *
      constructor <;> grobner
    · exact absurd ⟨rfl, e⟩ hu
  · rw [if_neg c]
    have n : b - a ≠ 0 := fun e => c (by grobner)
    have i := mul_inv _ n
    generalize inv (b - a) = j at *
    unfold On at *
    clear hu
    constructor
    · grobner
    · refine cancel (b - a) _ _ n ?_
      grobner
theorem add_P {a a' b b' l s s' : F} (ha : On a a') (hb : On b b') (hu : ¬ Up a a' b b') (hl : Ln a a' b b' l) (hs : s = l*l - a - b) (hs' : s' = l*(a-s) - a') : add (P a a') (P b b') = P s s' := by
  rw [add, if_neg hu, ← Ln.unique hl (slope_ln ha hb hu) ha hb hu, ← hs, ← hs']
/-- what a sum is made of -/
theorem add_cases (a a' b b' : F) (ha : On a a') (hb : On b b') (hu : ¬ Up a a' b b') : ∃ l s s', Ln a a' b b' l ∧ s = l*l - a - b ∧ s' = l*(a-s) - a' ∧ add (P a a') (P b b') = P s s' ∧ On s s' := by
  have h := slope_ln ha hb hu
  exact ⟨_, _, _, h, rfl, rfl, add_P ha hb hu h rfl rfl, third_on ha h rfl rfl⟩
theorem Ok_neg {A : Pt} (h : Ok A) : Ok (neg A) := by
  cases A with
  | O => exact h
  | P x y => exact On.neg h
theorem neg_neg (A : Pt) : neg (neg A) = A := by
  cases A with
  | O => rfl
  | P x y => simp only [neg]; congr 1; grobner
theorem add_zero (A : Pt) : add A O = A := by cases A <;> rfl
theorem zero_add (A : Pt) : add O A = A := by cases A <;> rfl
theorem add_up {a a' b b' : F} (h : Up a a' b b') : add (P a a') (P b b') = O := by rw [add, if_pos h]
theorem Up.symm {a a' b b' : F} (h : Up a a' b b') : Up b b' a a' := ⟨h.1.symm, by have := h.2; grobner⟩
theorem add_comm (A B : Pt) (hA : Ok A) (hB : Ok B) : add A B = add B A := by
  cases A with
  | O => rw [add_zero, zero_add]
  | P a a' =>
    cases B with
    | O => rw [add_zero, zero_add]
    | P b b' =>
      by_cases hu : Up a a' b b'
      · rw [add_up hu, add_up hu.symm]
      · obtain ⟨l, s, s', hl, hs, hs', e, _⟩ := add_cases a a' b b' hA hB hu
        rw [e]
        exact (add_P hB hA (fun h => hu h.symm) hl.symm (by rw [hs]; grobner) (third_y hl hs')).symm
theorem Ok_add {A B : Pt} (hA : Ok A) (hB : Ok B) : Ok (add A B) := by
  cases A with
  | O => rw [zero_add]; exact hB
  | P a a' =>
    cases B with
    | O => rw [add_zero]; exact hA
    | P b b' =>
      by_cases hu : Up a a' b b'
      · rw [add_up hu]; trivial
      · obtain ⟨l, s, s', hl, hs, hs', e, h⟩ := add_cases a a' b b' hA hB hu
        rw [e]; exact h
theorem add_neg (A : Pt) : add A (neg A) = O := by
  cases A with
  | O => rfl
  | P a a' => exact add_up ⟨rfl, by grobner⟩
theorem neg_of_add {A B : Pt} (h : add A B = O) : B = neg A := by
  cases A with
  | O => rw [zero_add] at h; exact h
  | P a a' =>
    cases B with
    | O => rw [add_zero] at h; cases h
    | P b b' =>
      by_cases hu : Up a a' b b'
      · rw [neg, ← hu.1]; congr 1; have := hu.2; grobner
      · rw [add, if_neg hu] at h; cases h
theorem neg_add (A B : Pt) (hA : Ok A) (hB : Ok B) : neg (add A B) = add (neg A) (neg B) := by
  cases A with
  | O => rw [zero_add]; exact (zero_add _).symm
  | P a a' =>
    cases B with
    | O => rw [add_zero]; exact (add_zero _).symm
    | P b b' =>
      by_cases hu : Up a a' b b'
      · rw [add_up hu]; symm; exact add_up ⟨hu.1, by have := hu.2; grobner⟩
      · obtain ⟨l, s, s', hl, hs, hs', e, h⟩ := add_cases a a' b b' hA hB hu
        rw [e]
        exact (add_P (On.neg hA) (On.neg hB) (fun h => hu ⟨h.1, by have := h.2; grobner⟩) hl.flip (by rw [hs]; grobner) (by rw [hs']; grobner)).symm
/-- a point back -/
theorem back (A C : Pt) (hA : Ok A) (hC : Ok C) : add (neg A) (add A C) = C := by
  cases A with
  | O => rfl
  | P a a' =>
    cases C with
    | O => rw [add_zero, add_comm _ _ (Ok_neg hA) hA, add_neg]
    | P c c' =>
      by_cases hu : Up a a' c c'
      · rw [add_up hu, add_zero, neg]
        rw [← hu.1]; congr 1; have := hu.2; grobner
      · obtain ⟨l, s, s', hl, hs, hs', e, h⟩ := add_cases a a' c c' hA hC hu
        rw [e]
        have t := third_ln hl hs hs'
        have hv : ¬ Up a (-a') s s' := by
          rintro ⟨e1, e2⟩
          obtain ⟨t1, t2⟩ := t
          subst e1
          have e3 : s' = a' := by grobner
          subst e3
          have e4 : s' = 0 := dbl_zero _ (by grobner)
          subst e4
          exact not_flat hA (by grobner)
        have g := t.flip
        rw [show -(-s') = s' by grobner] at g
        exact add_P (On.neg hA) h hv g (by rw [hs]; grobner) (by have := third_y hl hs'; have e1 := hl.1; rw [hs'] at *; grobner)
theorem back' (A C : Pt) (hA : Ok A) (hC : Ok C) : add A (add (neg A) C) = C := by
  have h := back (neg A) C (Ok_neg hA) hC
  rw [neg_neg] at h
  exact h
theorem back2 (A C : Pt) (hA : Ok A) (hC : Ok C) : add (add C A) (neg A) = C := by
  rw [add_comm C A hC hA, add_comm _ _ (Ok_add hA hC) (Ok_neg hA)]
  exact back A C hA hC
theorem assoc (A B C : Pt) (hA : Ok A) (hB : Ok B) (hC : Ok C) : add (add A B) C = add A (add B C) := by
  cases A with
  | O => rw [zero_add, zero_add]
  | P a a' =>
  cases B with
  | O => rw [add_zero, zero_add]
  | P b b' =>
  cases C with
  | O => rw [add_zero, add_zero]
  | P c c' =>
  by_cases hab : Up a a' b b'
  · have e : P a a' = neg (P b b') := neg_of_add (add_up hab.symm)
    rw [e, back _ _ hB hC, add_comm _ _ (Ok_neg hB) hB, add_neg, zero_add]
  by_cases hbc : Up b b' c c'
  · have e : P c c' = neg (P b b') := neg_of_add (add_up hbc)
    rw [e, back2 _ _ hB hA, add_neg, add_zero]
  by_cases hac : a = c
  · subst hac
    rcases same_x hA hC with e | e
    · subst e
      rw [add_comm _ _ (Ok_add hA hB) hA, add_comm (P b b') _ hB hA]
    · have e : P a c' = neg (P a a') := neg_of_add (add_up ⟨rfl, e⟩)
      rw [e, add_comm (P a a') _ hA hB, back2 _ _ hA hB, add_comm (P b b') _ hB (Ok_neg hA), back' _ _ hA hB]
  obtain ⟨l1, s, s', h1, hs, hs', es, os⟩ := add_cases a a' b b' hA hB hab
  obtain ⟨l3, t, t', h3, ht, ht', et, ot⟩ := add_cases b b' c c' hB hC hbc
  by_cases hsc : Up s s' c c'
  · have e : P c c' = neg (add (P a a') (P b b')) := by rw [es]; exact neg_of_add (add_up hsc)
    have e2 : add (P b b') (P c c') = neg (P a a') := by
      rw [e, neg_add _ _ hA hB, add_comm _ _ (Ok_neg hA) (Ok_neg hB)]
      exact back' _ _ hB (Ok_neg hA)
    rw [e2, add_neg, e, add_neg]
  by_cases hta : Up a a' t t'
  · have e : P a a' = neg (add (P b b') (P c c')) := by rw [et]; exact neg_of_add (add_up hta.symm)
    have e2 : add (P a a') (P b b') = neg (P c c') := by
      rw [e, neg_add _ _ hB hC, add_comm _ _ (Ok_add (Ok_neg hB) (Ok_neg hC)) hB]
      exact back' _ _ hB (Ok_neg hC)
    rw [e2, et, add_up hta, add_comm _ _ (Ok_neg hC) hC, add_neg]
  rw [es, et]
  obtain ⟨l2, u, u', h2, hu, hu', eu, ou⟩ := add_cases s s' c c' os hC hsc
  obtain ⟨l4, v, v', h4, hv, hv', ev, ov⟩ := add_cases a a' t t' hA ot hta
  rw [eu, ev]
  obtain ⟨m1, m2⟩ := assoc_x hA hB hC h1 hs hs' h2 h3 ht ht' h4 hab hbc hac
  have e1 : u = v := by
    clear h1 h2 h3 h4 hs' ht' hu' hv' hA hB hC os ot ou ov
    grobner
  subst e1
  have hu2 := third_y h2 hu'
  obtain ⟨p1, p2⟩ := h1
  obtain ⟨q1, q2⟩ := h3
  have e3 : (l1+l2)*(l1+l3-(l1+l2)) + u - b = 0 := by
    rw [hu, hs]
    clear hv ht hs' ht' hu2 hv' p1 p2 q1 q2 h2 h4 hA hB hC os ot ou ov hu'
    grobner
  have e4 : u' - v' = (l1 - l3) * ((l1+l2)*(l1+l3-(l1+l2)) + u - b) := by
    rw [hu2, hv']
    clear hu hv ht hs' ht' hs e3 p2 q2 h2 h4 hA hB hC os ot ou ov hu' hu2 hv'
    have e5 : l4 = l1 + l2 - l3 := by grobner
    have e6 : c' = a' - l1*(a-b) - l3*(b-c) := by grobner
    rw [e5, e6]
    clear e5 e6 p1 q1 m1
    grobner
  have e2 : u' = v' := by
    rw [e3] at e4
    clear hu hv ht hs' ht' hs e3 p1 p2 q1 q2 h2 h4 hA hB hC os ot ou ov hu' hu2 hv'
    grobner
  rw [e2]
end Go.Proofs.YtkdmplfldfagnaaDoor.Crv
end
section
/- What is proved here: what the field's functions answer, of the program and of the reference alike: sums, products and inverses modulo 12107. No conditions. -/
set_option linter.unusedVariables false
set_option linter.unusedSimpArgs false
namespace Go.Proofs.YtkdmplfldfagnaaDoor.Link
open Go.RowKit Go.Proofs.YtkdmplfldfagnaaDoor.Pf Go.Proofs.YtkdmplfldfagnaaDoorW.PrintWords Go.Proofs.YtkdmplfldfagnaaDoor.Crv
set_option maxRecDepth 4000

theorem wrap_in {i : Int} (h0 : -9223372036854775808 ≤ i) (h : i ≤ 9223372036854775807) : wrap64 i = i := by
  unfold wrap64; omega
/-- an element's number, a number's element -/
def I (x : F) : Int := (x.val : Int)
def R (n : Int) : F := Fin.ofNat 12107 (n % 12107).toNat
theorem I_lt (x : F) : I x < 12107 := by have := x.isLt; unfold I; omega
theorem I_nn (x : F) : 0 ≤ I x := by unfold I; omega
theorem I_R (n : Int) : I (R n) = n % 12107 := by
  unfold I R
  show (((n % 12107).toNat % 12107 : Nat) : Int) = _
  omega
theorem R_I (x : F) : R (I x) = x := by
  apply Fin.ext
  show ((x.val : Int) % 12107).toNat % 12107 = x.val
  have := x.isLt
  omega
theorem I_inj {x y : F} (h : I x = I y) : x = y := by rw [← R_I x, h, R_I]
theorem R_mod (n : Int) : R (n % 12107) = R n := by
  apply I_inj; rw [I_R, I_R]; omega
theorem R_small {n : Int} (h0 : 0 ≤ n) (h : n < 12107) : I (R n) = n := by rw [I_R]; omega
theorem I_add (x y : F) : I (x + y) = (((x.val + y.val) % 12107 : Nat) : Int) := rfl
theorem I_mul (x y : F) : I (x * y) = (((x.val * y.val) % 12107 : Nat) : Int) := rfl
theorem I_sub (x y : F) : I (x - y) = (((12107 - y.val + x.val) % 12107 : Nat) : Int) := rfl
theorem R_add (a b : Int) : R (a + b) = R a + R b := by
  apply I_inj
  rw [I_R, I_add]
  have h1 := I_R a
  have h2 := I_R b
  unfold I at h1 h2
  omega
theorem R_mul (a b : Int) : R (a * b) = R a * R b := by
  apply I_inj
  rw [I_R, I_mul]
  have h1 := I_R a
  have h2 := I_R b
  unfold I at h1 h2
  rw [Int.mul_emod, ← h1, ← h2, ← Int.natCast_mul]
  omega
theorem R_sub (a b : Int) : R (a - b) = R a - R b := by
  apply I_inj
  rw [I_R, I_sub]
  have h1 := I_R a
  have h2 := I_R b
  have h3 := (R b).isLt
  unfold I at h1 h2
  omega
theorem R_zero : R 0 = 0 := by decide
theorem R_one : R 1 = 1 := by decide
theorem R_two : R 2 = 2 := by decide
theorem R_three : R 3 = 3 := by decide
theorem I_zero : I 0 = 0 := by decide
theorem I_one : I 1 = 1 := by decide
theorem tmod_two (n : Int) (m : Int) (hm : 0 < m) : Int.tmod n m = n % m ∨ (Int.tmod n m = n % m - m ∧ n % m ≠ 0) := by
  rw [Int.tmod_eq_emod]
  split
  · left; omega
  · rename_i h
    right
    refine ⟨by omega, fun e => h (Or.inr (Int.dvd_of_emod_eq_zero e))⟩
theorem mul_bound (a b : F) : 0 ≤ I a * I b ∧ I a * I b ≤ 146555236 := by
  have h1 := I_nn a
  have h2 := I_nn b
  have h3 := I_lt a
  have h4 := I_lt b
  refine ⟨Int.mul_nonneg h1 h2, ?_⟩
  have := Int.mul_le_mul (show I a ≤ 12106 by omega) (show I b ≤ 12106 by omega) h2 (by decide)
  omega

theorem impl_FpOf_eq (n : Int) : impl_FpOf.f n = some (I (R n)) := by
  unfold impl_FpOf.f impl_remainder.f
  rw [if_neg (by decide)]
  rw [I_R]
  rcases tmod_two n 12107 (by decide) with h | ⟨h, h2⟩
  · rw [h, if_neg (by omega)]; rfl
  · rw [h, if_pos (by omega), wrap_in (by omega) (by omega)]
    simp
theorem impl_FpAdd_eq (a b : Int) : impl_FpAdd.f a b = some (I (R a + R b)) := by
  have h1 := I_lt (R a)
  have h2 := I_lt (R b)
  have h3 := I_nn (R a)
  have h4 := I_nn (R b)
  simp only [impl_FpAdd.f, impl_FpOf_eq, Option.bind_some]
  rw [wrap_in (by omega) (by omega), R_add, R_I, R_I]
theorem impl_FpSub_eq (a b : Int) : impl_FpSub.f a b = some (I (R a - R b)) := by
  have h1 := I_lt (R a)
  have h2 := I_lt (R b)
  have h3 := I_nn (R a)
  have h4 := I_nn (R b)
  simp only [impl_FpSub.f, impl_FpOf_eq, Option.bind_some]
  rw [wrap_in (by omega) (by omega), R_sub, R_I, R_I]
theorem impl_FpMul_eq (a b : Int) : impl_FpMul.f a b = some (I (R a * R b)) := by
  have h := mul_bound (R a) (R b)
  simp only [impl_FpMul.f, impl_FpOf_eq, Option.bind_some]
  rw [wrap_in (by omega) (by omega), R_mul, R_I, R_I]

theorem spec_FpOf_eq (n : Int) : spec_FpOf.f n = some (I (R n)) := by
  unfold spec_FpOf.f
  rw [I_R]
  rcases tmod_two n 12107 (by decide) with h | ⟨h, h2⟩
  · rw [h, if_neg (by omega)]
  · rw [h, if_pos (by omega), wrap_in (by omega) (by omega)]
    simp
theorem spec_FpAdd_eq (a b : Int) : spec_FpAdd.f a b = some (I (R a + R b)) := by
  have h1 := I_lt (R a)
  have h2 := I_lt (R b)
  have h3 := I_nn (R a)
  have h4 := I_nn (R b)
  simp only [spec_FpAdd.f, spec_FpOf_eq, Option.bind_some]
  rw [wrap_in (by omega) (by omega), R_add, R_I, R_I]
theorem spec_FpSub_eq (a b : Int) : spec_FpSub.f a b = some (I (R a - R b)) := by
  have h1 := I_lt (R a)
  have h2 := I_lt (R b)
  have h3 := I_nn (R a)
  have h4 := I_nn (R b)
  simp only [spec_FpSub.f, spec_FpOf_eq, Option.bind_some]
  rw [wrap_in (by omega) (by omega), R_sub, R_I, R_I]
theorem spec_FpMul_eq (a b : Int) : spec_FpMul.f a b = some (I (R a * R b)) := by
  have h := mul_bound (R a) (R b)
  simp only [spec_FpMul.f, spec_FpOf_eq, Option.bind_some]
  rw [wrap_in (by omega) (by omega), R_mul, R_I, R_I]

theorem halve (n : Nat) (h : n < 4611686018427387904) : wrap64 (Int.tdiv (n : Int) 2) = ((n / 2 : Nat) : Int) := by
  rw [Int.tdiv_eq_ediv_of_nonneg (by omega), wrap_in (by omega) (by omega)]; omega
theorem odd (n : Nat) : Int.tmod (n : Int) 2 = 1 ↔ n % 2 = 1 := by
  rw [Int.tmod_eq_emod_of_nonneg (by omega)]; omega
theorem pwl_stop : ∀ (f : Nat) (a out : F), pwl f a 0 out = out
  | 0, _, _ => rfl
  | f + 1, a, out => by rw [pwl, if_pos rfl]
theorem tmod_mul (a b : F) : Int.tmod (wrap64 (I a * I b)) 12107 = I (a * b) := by
  have h := mul_bound a b
  rw [wrap_in (by omega) (by omega), Int.tmod_eq_emod_of_nonneg h.1, ← I_R, R_mul, R_I, R_I]
theorem impl_power_l0 : ∀ (f k : Nat) (a : F) (n : Nat) (out : F), n < 2 ^ f → f ≤ 60 → f < k → impl_powerMod.l0 k (I a) (n : Int) 12107 (I out) = some (I (pwl f a n out))
  | 0, k, a, n, out, h, _, hk => by
    obtain rfl : n = 0 := by simp at h; exact h
    obtain ⟨k, rfl⟩ : ∃ m, k = m + 1 := ⟨k - 1, by omega⟩
    simp only [impl_powerMod.l0]
    rw [if_neg (by omega), pwl]
  | f + 1, k, a, n, out, h, hf, hk => by
    obtain ⟨k, rfl⟩ : ∃ m, k = m + 1 := ⟨k - 1, by omega⟩
    have hb : 2 ^ (f + 1) ≤ 2 ^ 60 := Nat.pow_le_pow_right (by decide) hf
    simp only [impl_powerMod.l0]
    rw [pwl]
    by_cases c : n = 0
    · subst c; rw [if_neg (by omega), if_pos rfl]
    rw [if_pos (by omega), if_neg c, halve n (by omega)]
    rw [Nat.pow_succ] at h
    by_cases d : n % 2 = 1
    · rw [if_pos ((odd n).mpr d), if_pos d, if_neg (by decide), tmod_mul, tmod_mul, impl_power_l0 f k _ _ _ (by omega) (by omega) (by omega)]
    · rw [if_neg (fun e => d ((odd n).mp e)), if_neg d, if_neg (by decide), tmod_mul, impl_power_l0 f k _ _ _ (by omega) (by omega) (by omega)]
theorem impl_power_eq (k : Nat) (a : Int) (n f : Nat) (h : n < 2 ^ f) (hf : f ≤ 60) (hk : f < k) : impl_powerMod.f k a (n : Int) 12107 = some (I (pwl f (R a) n 1)) := by
  have e := impl_FpOf_eq a
  unfold impl_FpOf.f at e
  have e2 : impl_remainder.f a 12107 = some (I (R a)) := by
    cases h : impl_remainder.f a 12107 with
    | none => rw [h] at e; cases e
    | some v => rw [h] at e; exact e
  simp only [impl_powerMod.f, e2, Option.bind_some]
  have := impl_power_l0 f k (R a) n 1 h hf hk
  rw [I_one] at this
  exact this
theorem spec_power_l0 : ∀ (f k : Nat) (a : F) (n : Nat) (out : F), n < 2 ^ f → f ≤ 60 → f < k → spec_FpPow.l0 k (n : Int) (I out) (I a) = some (I (pwl f a n out))
  | 0, k, a, n, out, h, _, hk => by
    obtain rfl : n = 0 := by simp at h; exact h
    obtain ⟨k, rfl⟩ : ∃ m, k = m + 1 := ⟨k - 1, by omega⟩
    simp only [spec_FpPow.l0]
    rw [if_neg (by omega), pwl]
  | f + 1, k, a, n, out, h, hf, hk => by
    obtain ⟨k, rfl⟩ : ∃ m, k = m + 1 := ⟨k - 1, by omega⟩
    have hb : 2 ^ (f + 1) ≤ 2 ^ 60 := Nat.pow_le_pow_right (by decide) hf
    simp only [spec_FpPow.l0, spec_FpMul_eq, Option.bind_some, R_I]
    rw [pwl]
    by_cases c : n = 0
    · subst c; rw [if_neg (by omega), if_pos rfl]
    rw [if_pos (by omega), if_neg c, halve n (by omega)]
    rw [Nat.pow_succ] at h
    by_cases d : n % 2 = 1
    · rw [if_pos ((odd n).mpr d), if_pos d, spec_power_l0 f k _ _ _ (by omega) (by omega) (by omega)]
    · rw [if_neg (fun e => d ((odd n).mp e)), if_neg d, spec_power_l0 f k _ _ _ (by omega) (by omega) (by omega)]
theorem spec_power_eq (k : Nat) (a : Int) (n f : Nat) (h : n < 2 ^ f) (hf : f ≤ 60) (hk : f < k) : spec_FpPow.f k a (n : Int) = some (I (pwl f (R a) n 1)) := by
  simp only [spec_FpPow.f, spec_FpOf_eq, Option.bind_some]
  rw [if_neg (by omega)]
  have := spec_power_l0 f k (R a) n 1 h hf hk
  rw [I_one] at this
  exact this
theorem impl_FpInv_eq (k : Nat) (a : Int) (hk : 15 ≤ k) : impl_FpInv.f k a = some (I (inv (R a))) := by
  have h := impl_power_eq k a 12105 14 (by decide) (by decide) (by omega)
  have e : ((12105 : Nat) : Int) = 12105 := rfl
  rw [e] at h
  simp only [impl_FpInv.f, h, Option.bind_some, inv]
theorem spec_FpInv_eq (k : Nat) (a : Int) (hk : 15 ≤ k) : spec_FpInv.f k a = some (I (inv (R a))) := by
  have h := spec_power_eq k a 12105 14 (by decide) (by decide) (by omega)
  have e : ((12105 : Nat) : Int) = 12105 := rfl
  rw [e] at h
  simp only [spec_FpInv.f, h, Option.bind_some, inv]

end Go.Proofs.YtkdmplfldfagnaaDoor.Link
end
section
/- What is proved here: what the functions over points of the curve answer, of the program and of the reference alike: the sum of the curve. No conditions but that points lie on the curve. -/
set_option linter.unusedVariables false
set_option linter.unusedSimpArgs false
namespace Go.Proofs.YtkdmplfldfagnaaDoor.Link
open Go.RowKit Go.Proofs.YtkdmplfldfagnaaDoor.Pf Go.Proofs.YtkdmplfldfagnaaDoorW.PrintWords Go.Proofs.YtkdmplfldfagnaaDoor.Crv
open Go.Proofs.YtkdmplfldfagnaaDoor.Crv.Pt
set_option maxRecDepth 4000


def tr : Pt → Int × Int × Bool
  | O => (0, 0, true)
  | P x y => (I x, I y, false)
/-- the point that three parts tell -/
def dec (x y : Int) (z : Bool) : Option Pt :=
  if z = true then (if x = 0 ∧ y = 0 then some O else none)
  else if (0 ≤ x ∧ x < 12107) ∧ (0 ≤ y ∧ y < 12107) ∧ R y * R y = R x * R x * R x + R x then some (P (R x) (R y)) else none
theorem dec_ok {x y : Int} {z : Bool} {A : Pt} (h : dec x y z = some A) : Ok A ∧ x = (tr A).1 ∧ y = (tr A).2.1 ∧ z = (tr A).2.2 := by
  unfold dec at h
  by_cases c : z = true
  · rw [if_pos c] at h
    by_cases d : x = 0 ∧ y = 0
    · rw [if_pos d] at h
      obtain rfl := Option.some.inj h
      exact ⟨trivial, d.1, d.2, c⟩
    · rw [if_neg d] at h; cases h
  · rw [if_neg c] at h
    by_cases d : (0 ≤ x ∧ x < 12107) ∧ (0 ≤ y ∧ y < 12107) ∧ R y * R y = R x * R x * R x + R x
    · rw [if_pos d] at h
      obtain rfl := Option.some.inj h
      obtain ⟨⟨d1, d2⟩, ⟨d3, d4⟩, d5⟩ := d
      exact ⟨d5, (R_small d1 d2).symm, (R_small d3 d4).symm, Bool.eq_false_iff.mpr c⟩
    · rw [if_neg d] at h; cases h
theorem dec_tr (A : Pt) (hA : Ok A) : dec (tr A).1 (tr A).2.1 (tr A).2.2 = some A := by
  cases A with
  | O => rfl
  | P x y =>
    unfold dec tr
    have hA' : y * y = x * x * x + x := hA
    dsimp only
    rw [if_neg (by decide), if_pos ⟨⟨I_nn x, I_lt x⟩, ⟨I_nn y, I_lt y⟩, by rw [R_I, R_I]; exact hA'⟩, R_I, R_I]
theorem tr_inj {A B : Pt} (hA : Ok A) (hB : Ok B) (h : tr A = tr B) : A = B := by
  have h1 := dec_tr A hA
  rw [h, dec_tr B hB] at h1
  exact (Option.some.inj h1).symm
theorem Ieq_iff (x y : F) : I x = I y ↔ x = y := ⟨I_inj, fun h => by rw [h]⟩
theorem I_eq_zero (x : F) : I x = 0 ↔ x = 0 := by rw [← I_zero]; exact Ieq_iff x 0
theorem addc (a b c d : F) : (I (a * b * c + d) == I (a * b * c + d)) = true := by simp

theorem impl_curve_eq (x : Int) : impl_curveAt.f x = some (I (R x * R x * R x + R x)) := by
  simp only [impl_curveAt.f, impl_FpMul_eq, impl_FpAdd_eq, Option.bind_some, R_I]
theorem impl_FpOk_eq (x : Int) : impl_FpOk.f x = some (decide (0 ≤ x ∧ x < 12107)) := by
  unfold impl_FpOk.f
  by_cases h : x ≥ 0
  · rw [if_pos h]; congr 1; simp only [decide_eq_decide]; omega
  · rw [if_neg h, decide_eq_false (by omega)]
theorem impl_PointOk_eq (x y : Int) (z : Bool) : impl_PointOk.f x y z = some (dec x y z).isSome := by
  unfold impl_PointOk.f dec
  simp only [impl_FpOk_eq, impl_curve_eq, impl_FpMul_eq, Option.bind_some]
  by_cases c : z = true
  · rw [if_pos c, if_pos c]
    by_cases d : x = 0
    · rw [if_pos d]
      by_cases e : y = 0
      · rw [if_pos ⟨d, e⟩, e]; rfl
      · rw [if_neg (fun h => e h.2), beq_false_of_ne e]; rfl
    · rw [if_neg d, if_neg (fun h => d h.1)]; rfl
  · rw [if_neg c, if_neg c]
    by_cases d : 0 ≤ x ∧ x < 12107
    · rw [decide_eq_true d, if_pos rfl]
      by_cases e : 0 ≤ y ∧ y < 12107
      · rw [decide_eq_true e, if_pos rfl]
        by_cases f : R y * R y = R x * R x * R x + R x
        · rw [if_pos ⟨d, e, f⟩, f]; simp
        · rw [if_neg (fun h => f h.2.2), beq_false_of_ne (fun h => f (I_inj h))]; rfl
      · rw [decide_eq_false e, if_neg (by decide), if_neg (fun h => e h.2.1)]; rfl
    · rw [decide_eq_false d, if_neg (by decide), if_neg (fun h => d h.1)]; rfl

theorem spec_curve_eq (x : Int) : spec_l07Right.f x = some (I (R x * R x * R x + R x)) := by
  simp only [spec_l07Right.f, spec_FpMul_eq, spec_FpAdd_eq, Option.bind_some, R_I]
theorem spec_FpOk_eq (x : Int) : spec_FpOk.f x = some (decide (0 ≤ x ∧ x < 12107)) := by
  simp only [spec_FpOk.f, spec_l01In.f]
  by_cases h : x ≥ 0
  · rw [if_pos h]; simp only [Option.bind_some]; congr 1; simp only [decide_eq_decide]; omega
  · rw [if_neg h, decide_eq_false (by omega)]; rfl
theorem spec_PointOk_eq (x y : Int) (z : Bool) : spec_PointOk.f x y z = some (dec x y z).isSome := by
  unfold spec_PointOk.f dec
  simp only [spec_FpOk_eq, spec_curve_eq, spec_FpMul_eq, Option.bind_some]
  by_cases c : z = true
  · rw [if_pos c, if_pos c]
    by_cases d : x = 0
    · rw [if_pos d]
      by_cases e : y = 0
      · rw [if_pos ⟨d, e⟩, e]; rfl
      · rw [if_neg (fun h => e h.2), beq_false_of_ne e]; rfl
    · rw [if_neg d, if_neg (fun h => d h.1)]; rfl
  · rw [if_neg c, if_neg c]
    by_cases d : 0 ≤ x ∧ x < 12107
    · rw [decide_eq_true d, if_pos rfl]
      by_cases e : 0 ≤ y ∧ y < 12107
      · rw [decide_eq_true e, if_pos rfl]
        by_cases f : R y * R y = R x * R x * R x + R x
        · rw [if_pos ⟨d, e, f⟩, f]; simp
        · rw [if_neg (fun h => f h.2.2), beq_false_of_ne (fun h => f (I_inj h))]; rfl
      · rw [decide_eq_false e, if_neg (by decide), if_neg (fun h => e h.2.1)]; rfl
    · rw [decide_eq_false d, if_neg (by decide), if_neg (fun h => d h.1)]; rfl

theorem impl_slope_eq (k : Nat) (hk : 20 ≤ k) (a a' b b' : F) (ha : On a a') (hb : On b b') :
    impl_slopeOf.f k (I a) (I a') false (I b) (I b') false = some (if Up a a' b b' then (0, false) else (I (slope a a' b b'), true)) := by
  obtain ⟨k, rfl⟩ : ∃ m, k = m + 1 := ⟨k - 1, by omega⟩
  unfold impl_slopeOf.f
  by_cases c : a = b
  · subst c
    rw [if_pos rfl]
    have e0 : impl_slopeOf.j0 (k + 1) true (I a) (I a') false = some (0, false) := by simp only [impl_slopeOf.j0, if_true]
    by_cases d : a' = b'
    · subst d
      rw [if_pos rfl]
      by_cases e : a' = 0
      · subst e
        rw [show (I 0 == 0) = true from rfl, e0, if_pos ⟨rfl, by decide⟩]
      · have u : ¬ Up a a' a a' := fun h => e (dbl_zero _ h.2)
        rw [if_neg u, beq_false_of_ne (fun h => e ((I_eq_zero a').mp h))]
        simp only [impl_slopeOf.j0, impl_FpMul_eq, impl_FpAdd_eq, impl_FpInv_eq k _ (by omega), Option.bind_some, R_I, R_three, R_two, R_one, slope, if_true]
        rw [if_neg (by decide)]
    · rw [if_neg (fun h => d (I_inj h)), e0]
      rcases same_x ha hb with e | e
      · exact absurd e d
      · rw [if_pos ⟨rfl, e⟩]
  · have u : ¬ Up a a' b b' := fun h => c h.1
    rw [if_neg (fun h => c (I_inj h)), if_neg u]
    simp only [impl_FpSub_eq, impl_FpMul_eq, impl_FpInv_eq (k + 1) _ (by omega), Option.bind_some, R_I, slope, if_neg c]
theorem spec_slope_eq (k : Nat) (hk : 20 ≤ k) (a a' b b' : F) (ha : On a a') (hb : On b b') :
    spec_l07Slope.f k (I a) (I a') false (I b) (I b') false = some (if Up a a' b b' then (0, false) else (I (slope a a' b b'), true)) := by
  unfold spec_l07Slope.f
  by_cases c : a = b
  · subst c
    rw [if_pos rfl, spec_FpAdd_eq, Option.bind_some, R_I, R_I]
    by_cases e : a' + b' = 0
    · rw [e, I_zero, if_pos rfl, if_pos ⟨rfl, e⟩]
    · rw [if_neg (fun h => e ((I_eq_zero _).mp h)), if_neg (fun h => e h.2)]
      simp only [spec_FpMul_eq, spec_FpAdd_eq, spec_FpInv_eq k _ (show 15 ≤ k by omega), Option.bind_some, R_I, R_three, R_two, R_one]
      rw [slope, if_pos rfl]
  · have u : ¬ Up a a' b b' := fun h => c h.1
    rw [if_neg (fun h => c (I_inj h)), if_neg u]
    simp only [spec_FpSub_eq, spec_FpMul_eq, spec_FpInv_eq k _ (by omega), Option.bind_some, R_I, slope, if_neg c]

theorem impl_add_eq (k : Nat) (hk : 20 ≤ k) (A B : Pt) (hA : Ok A) (hB : Ok B) :
    impl_add.f k (tr A).1 (tr A).2.1 (tr A).2.2 (tr B).1 (tr B).2.1 (tr B).2.2 = some (tr (add A B)) := by
  unfold impl_add.f
  cases A with
  | O => rw [zero_add, if_pos (show (tr O).2.2 = true from rfl)]
  | P a a' =>
    rw [if_neg (by simp [tr])]
    cases B with
    | O => rw [add_zero, if_pos (show (tr O).2.2 = true from rfl)]
    | P b b' =>
      rw [if_neg (by simp [tr])]
      simp only [tr, impl_slope_eq k hk a a' b b' hA hB, Option.bind_some]
      by_cases u : Up a a' b b'
      · rw [add_up u]
        simp only [if_pos u, Option.bind_some, Bool.false_eq_true, if_false]
      · rw [add, if_neg u]
        simp only [if_neg u, if_true, impl_FpSub_eq, impl_FpMul_eq, Option.bind_some, R_I]

theorem spec_add_eq (k : Nat) (hk : 20 ≤ k) (A B : Pt) (hA : Ok A) (hB : Ok B) :
    spec_l07Add.f k (tr A).1 (tr A).2.1 (tr A).2.2 (tr B).1 (tr B).2.1 (tr B).2.2 = some (tr (add A B)) := by
  unfold spec_l07Add.f
  cases A with
  | O => rw [zero_add, if_pos (show (tr O).2.2 = true from rfl)]
  | P a a' =>
    rw [if_neg (by simp [tr])]
    cases B with
    | O => rw [add_zero, if_pos (show (tr O).2.2 = true from rfl)]
    | P b b' =>
      rw [if_neg (by simp [tr])]
      simp only [tr, spec_slope_eq k hk a a' b b' hA hB, Option.bind_some]
      by_cases u : Up a a' b b'
      · rw [add_up u]
        simp only [if_pos u, spec_l07Zero.f, Option.bind_some, Bool.false_eq_true, if_false]
      · rw [add, if_neg u]
        simp only [if_neg u, if_true, spec_FpSub_eq, spec_FpMul_eq, Option.bind_some, R_I]

end Go.Proofs.YtkdmplfldfagnaaDoor.Link
end
