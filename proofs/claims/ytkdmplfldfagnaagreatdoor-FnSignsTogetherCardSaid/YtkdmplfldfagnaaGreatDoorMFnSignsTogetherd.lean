/- What is proved here: part 4 of 5 of the proof of the given statement FnSignsTogether: the contracts of the Go functions that it reaches, the plain facts on lists and numbers, and (in the last part) the statement itself. No conditions beyond the given ones. -/
import Derived.Test.YtkdmplfldfagnaaGreatDoorMFnSignsTogetherwSlim
import Derived.Test.YtkdmplfldfagnaaGreatDoorMFnSignsTogethera
import Derived.Test.YtkdmplfldfagnaaGreatDoorMFnSignsTogetherc
import Derived.Test.YtkdmplfldfagnaaGreatDoorMFnSignsTogetherb

section
namespace Go.Proofs.YtkdmplfldfagnaaGreatDoor.Pf
open Go.RowKit Go.Proofs.YtkdmplfldfagnaaGreatDoorW.PrintWords Go.Proofs.YtkdmplfldfagnaaGreatDoorW.PrintLast Go.Proofs.YtkdmplfldfagnaaGreatDoorW.PrintMore
attribute [local go_sem] max2_int min2_int max_two min_two max_three min_three max_four min_four   -- for this text's walks alone
set_option linter.unusedVariables false
set_option linter.unusedSimpArgs false
def impl_Pairing.j0 : Nat → Bool → Int → Int → Bool → Int → Int → Bool → Option (Int × Int)
 | 0, _, _, _, _, _, _, _ => none
 | k + 1, x21, x545000, x545001, x545002, x546000, x546001, x546002 => if x21 = true then (some (1, 0)) else ((impl_Miller.f k x545000 x545001 x545002 x546000 x546001 x546002).bind fun bt549 => ((impl_TwoTurn.f bt549.1 bt549.2).bind fun bt552 => ((impl_TwoInv.f k bt549.1 bt549.2).bind fun bt554 => ((impl_TwoMul.f bt552.1 bt552.2 bt554.1 bt554.2).bind fun bt556 => ((impl_TwoPow.f k bt556.1 bt556.2 12).bind fun bt558 => (some (bt558.1, bt558.2)))))))
def impl_Pairing.f (k : Nat) (a0_0 : Int) (a0_1 : Int) (a0_2 : Bool) (a1_0 : Int) (a1_1 : Int) (a1_2 : Bool) : Option (Int × Int) := if a0_2 = true then (impl_Pairing.j0 k true a0_0 a0_1 a0_2 a1_0 a1_1 a1_2) else (if a1_2 = true then (impl_Pairing.j0 k true a0_0 a0_1 a0_2 a1_0 a1_1 a1_2) else ((impl_InGroup.f k a0_0 a0_1 a0_2).bind fun t547 => (if t547 = true then ((impl_InGroup.f k a1_0 a1_1 a1_2).bind fun t548 => (impl_Pairing.j0 k (!t548) a0_0 a0_1 a0_2 a1_0 a1_1 a1_2)) else (impl_Pairing.j0 k true a0_0 a0_1 a0_2 a1_0 a1_1 a1_2))))
set_option maxHeartbeats 8000000 in
set_option maxRecDepth 100000 in
theorem impl_Pairing.calls (k : Nat) (a0_0 : Int) (a0_1 : Int) (a0_2 : Bool) (a1_0 : Int) (a1_1 : Int) (a1_2 : Bool) (r1 : Int) (r2 : Int) (w : World) (h : impl_Pairing.f k a0_0 a0_1 a0_2 a1_0 a1_1 a1_2 = some (r1, r2)) :
  Calls Tryz.prog 60 #[.agg #[.int .i64 a0_0, .int .i64 a0_1, .bool a0_2], .agg #[.int .i64 a1_0, .int .i64 a1_1, .bool a1_2]] w fun e w' => e = .returned (.agg #[.int .i64 r1, .int .i64 r2]) ∧ Below w.heap.size w w' := by
 have hu28 := Tryz.underlying28
 have hu75 := Tryz.underlying75
 have HB := Aside0.mk (Below.refl w.heap.size w)
 have H : (if a0_2 = true then (impl_Pairing.j0 k true a0_0 a0_1 a0_2 a1_0 a1_1 a1_2) else (if a1_2 = true then (impl_Pairing.j0 k true a0_0 a0_1 a0_2 a1_0 a1_1 a1_2) else ((impl_InGroup.f k a0_0 a0_1 a0_2).bind fun t547 => (if t547 = true then ((impl_InGroup.f k a1_0 a1_1 a1_2).bind fun t548 => (impl_Pairing.j0 k (!t548) a0_0 a0_1 a0_2 a1_0 a1_1 a1_2)) else (impl_Pairing.j0 k true a0_0 a0_1 a0_2 a1_0 a1_1 a1_2))))) = some (r1, r2) := h
 clear h
 have HC3 := Aside0.mk H
 clear H
 go_enter Tryz.func60, Tryz.ntmps60
 go_upto_region 1 with (first | (refine gB 2 #[.int .i64 a0_0, .int .i64 a0_1, .bool a0_2] 28 ?_; intro gb544 hg w4 BK544 hb; have GW544 := bG HB hg; replace HB := bS HB hb; clear hb hg) | (refine gB 3 #[.int .i64 a1_0, .int .i64 a1_1, .bool a1_2] 28 ?_; intro gb545 hg w5 BK545 hb; have GW545 := bG HB hg; replace HB := bS HB hb; obtain ⟨NB544_545, NB545_544⟩ := bN BK544 hg; replace BK544 := bB BK544 hb; clear hb hg) | (refine gB 4 #[.int .i64 0, .int .i64 0] 75 ?_; intro gb546 hg w6 BK546 hb; have GW546 := bG HB hg; replace HB := bS HB hb; obtain ⟨NB544_546, NB546_544⟩ := bN BK544 hg; replace BK544 := bB BK544 hb; obtain ⟨NB545_546, NB546_545⟩ := bN BK545 hg; replace BK545 := bB BK545 hb; clear hb hg))
 (try simp only [Act.put, List.setIfInBounds_toArray, List.set_cons_zero, List.set_cons_succ])
 go_cut [21] (fun v21 wc => ∃ (kq : Nat) (x21_2 : Bool), v21 = .bool x21_2 ∧ Aside0 (impl_Pairing.j0 kq x21_2 a0_0 a0_1 a0_2 a1_0 a1_1 a1_2 = some (r1, r2)) ∧ Aside0 (kq ≤ k) ∧ Aside0 (wc.heap[gb544]? = some (.cells #[.int .i64 a0_0, .int .i64 a0_1, .bool a0_2] 28 (0, 0))) ∧ Aside0 (wc.heap[gb545]? = some (.cells #[.int .i64 a1_0, .int .i64 a1_1, .bool a1_2] 28 (0, 0))) ∧ Aside0 (wc.heap[gb546]? = some (.cells #[.int .i64 0, .int .i64 0] 75 (0, 0))) ∧ Aside0 (Below w.heap.size w wc))
 case first =>
  have H := HC3.out
  clear HC3
  by_cases c7 : a0_2 = true
  ·subst c7
   rw [if_pos rfl] at H
   have H' := Aside0.mk H
   clear H
   obtain ⟨hnb8, hnc8⟩ := nB NB544_545
   obtain ⟨hnb9, hnc9⟩ := nB NB544_546
   obtain ⟨hcz10_0, hcz10_1, hcz10_2, hfz10_0, hfz10_1, hfz10_2⟩ := bK3 (w := w6) BK544
   go_wp2
   go_meet
   case rel => exact ⟨_, (true), rS, H', ⟨by first | omega | exact Nat.le_refl _⟩, ⟨bP BK544⟩, ⟨bP BK545⟩, ⟨bP BK546⟩, ⟨bZ HB⟩⟩
  ·replace c7 := Bool.eq_false_iff.mpr c7
   subst c7
   rw [if_neg (show ¬ (false = true) by decide)] at H
   by_cases c11 : a1_2 = true
   ·subst c11
    rw [if_pos rfl] at H
    have H' := Aside0.mk H
    clear H
    obtain ⟨hnb12, hnc12⟩ := nB NB544_545
    obtain ⟨hnb13, hnc13⟩ := nB NB544_546
    obtain ⟨hcz14_0, hcz14_1, hcz14_2, hfz14_0, hfz14_1, hfz14_2⟩ := bK3 (w := w6) BK544
    obtain ⟨hnb15, hnc15⟩ := nB NB545_546
    obtain ⟨hcz16_0, hcz16_1, hcz16_2, hfz16_0, hfz16_1, hfz16_2⟩ := bK3 (w := w6) BK545
    go_wp2
    go_meet
    case rel => exact ⟨_, (true), rS, H', ⟨by first | omega | exact Nat.le_refl _⟩, ⟨bP BK544⟩, ⟨bP BK545⟩, ⟨bP BK546⟩, ⟨bZ HB⟩⟩
   ·replace c11 := Bool.eq_false_iff.mpr c11
    subst c11
    rw [if_neg (show ¬ (false = true) by decide)] at H
    replace H := Option.bind_eq_some_iff.mp H
    obtain ⟨t547, A170, H⟩ := H
    have A17 := Aside0.mk A170
    clear A170
    by_cases c18 : t547 = true
    ·subst c18
     rw [if_pos rfl] at H
     replace H := Option.bind_eq_some_iff.mp H
     obtain ⟨t548, A190, H⟩ := H
     have A19 := Aside0.mk A190
     clear A190
     have H' := Aside0.mk H
     clear H
     obtain ⟨hnb20, hnc20⟩ := nB NB544_545
     obtain ⟨hnb21, hnc21⟩ := nB NB544_546
     obtain ⟨hcz22_0, hcz22_1, hcz22_2, hfz22_0, hfz22_1, hfz22_2⟩ := bK3 (w := w6) BK544
     obtain ⟨hnb23, hnc23⟩ := nB NB545_546
     obtain ⟨hcz24_0, hcz24_1, hcz24_2, hfz24_0, hfz24_1, hfz24_2⟩ := bK3 (w := w6) BK545
     go_wp2_with (first | (go_at_call 21; (with_reducible refine (impl_InGroup.calls k a0_0 a0_1 false true _ A17.out).mono ?_); rintro e w25 ⟨rfl, hb⟩; replace BK544 := bB BK544 hb; replace BK545 := bB BK545 hb; replace BK546 := bB BK546 hb; replace HB := bS HB hb; (try clear hb); obtain ⟨hcz26_0, hcz26_1, hcz26_2, hfz26_0, hfz26_1, hfz26_2⟩ := bK3 (w := w25) BK545) | (go_at_call 21; (with_reducible refine (impl_InGroup.calls k a1_0 a1_1 false t548 _ A19.out).mono ?_); rintro e w27 ⟨rfl, hb⟩; replace BK544 := bB BK544 hb; replace BK545 := bB BK545 hb; replace BK546 := bB BK546 hb; replace HB := bS HB hb; (try clear hb)))
     go_meet
     case rel => exact ⟨_, (!t548), rS, H', ⟨by first | omega | exact Nat.le_refl _⟩, ⟨bP BK544⟩, ⟨bP BK545⟩, ⟨bP BK546⟩, ⟨bZ HB⟩⟩
    ·replace c18 := Bool.eq_false_iff.mpr c18
     subst c18
     rw [if_neg (show ¬ (false = true) by decide)] at H
     have H' := Aside0.mk H
     clear H
     obtain ⟨hnb28, hnc28⟩ := nB NB544_545
     obtain ⟨hnb29, hnc29⟩ := nB NB544_546
     obtain ⟨hcz30_0, hcz30_1, hcz30_2, hfz30_0, hfz30_1, hfz30_2⟩ := bK3 (w := w6) BK544
     obtain ⟨hnb31, hnc31⟩ := nB NB545_546
     obtain ⟨hcz32_0, hcz32_1, hcz32_2, hfz32_0, hfz32_1, hfz32_2⟩ := bK3 (w := w6) BK545
     go_wp2_with (first | (go_at_call 21; (with_reducible refine (impl_InGroup.calls k a0_0 a0_1 false false _ A17.out).mono ?_); rintro e w33 ⟨rfl, hb⟩; replace BK544 := bB BK544 hb; replace BK545 := bB BK545 hb; replace BK546 := bB BK546 hb; replace HB := bS HB hb; (try clear hb)))
     go_meet
     case rel => exact ⟨_, (true), rS, H', ⟨by first | omega | exact Nat.le_refl _⟩, ⟨bP BK544⟩, ⟨bP BK545⟩, ⟨bP BK546⟩, ⟨bZ HB⟩⟩
 case rest =>
  clear HC3
  try clear c1
  try clear c2
  try clear p2
  try clear c3
  try clear c6
  try clear c7
  try clear c8
  try clear c9
  try clear c11
  try clear c12
  try clear c13
  try clear c15
  try clear c18
  try clear c20
  try clear c21
  try clear c23
  try clear c28
  try clear c29
  try clear c31
  try clear hcz10_0
  try clear hcz10_1
  try clear hcz10_2
  try clear hcz14_0
  try clear hcz14_1
  try clear hcz14_2
  try clear hcz16_0
  try clear hcz16_1
  try clear hcz16_2
  try clear hcz22_0
  try clear hcz22_1
  try clear hcz22_2
  try clear hcz24_0
  try clear hcz24_1
  try clear hcz24_2
  try clear hcz26_0
  try clear hcz26_1
  try clear hcz26_2
  try clear hcz30_0
  try clear hcz30_1
  try clear hcz30_2
  try clear hcz32_0
  try clear hcz32_1
  try clear hcz32_2
  try clear hfz10_0
  try clear hfz10_1
  try clear hfz10_2
  try clear hfz14_0
  try clear hfz14_1
  try clear hfz14_2
  try clear hfz16_0
  try clear hfz16_1
  try clear hfz16_2
  try clear hfz22_0
  try clear hfz22_1
  try clear hfz22_2
  try clear hfz24_0
  try clear hfz24_1
  try clear hfz24_2
  try clear hfz26_0
  try clear hfz26_1
  try clear hfz26_2
  try clear hfz30_0
  try clear hfz30_1
  try clear hfz30_2
  try clear hfz32_0
  try clear hfz32_1
  try clear hfz32_2
  obtain ⟨kq, x21_2, rfl, HA, HJ2, BK544, BK545, BK546, HB⟩ := hcut
  cases kq with
  | zero => exact absurd HA.out (by simp [impl_Pairing.j0])
  | succ kj2 =>
   have H := HA.out
   clear HA
   simp only [impl_Pairing.j0] at H
   by_cases c34 : x21_2 = true
   ·subst c34
    rw [if_pos rfl] at H
    simp only [Option.some.injEq, Prod.mk.injEq] at H
    obtain ⟨rfl, rfl⟩ := H
    obtain ⟨hnb35, hnc35⟩ := nB NB546_544
    obtain ⟨hnb36, hnc36⟩ := nB NB546_545
    obtain ⟨hcz37_0, hcz37_1, hfz37_0, hfz37_1⟩ := bK2 (w := wc) BK546
    go_wp2
    refine rC gb546 75 #[.int .i64 1, .int .i64 0] (bU BK546) Tryz.underlying75 ?_
    exact ⟨rR, bZ HB⟩
   ·replace c34 := Bool.eq_false_iff.mpr c34
    subst c34
    rw [if_neg (show ¬ (false = true) by decide)] at H
    replace H := Option.bind_eq_some_iff.mp H
    obtain ⟨⟨t549, t550⟩, A380, H⟩ := H
    have A38 := Aside0.mk A380
    clear A380
    replace H := Option.bind_eq_some_iff.mp H
    obtain ⟨⟨t552, t553⟩, A390, H⟩ := H
    have A39 := Aside0.mk A390
    clear A390
    replace H := Option.bind_eq_some_iff.mp H
    obtain ⟨⟨t554, t555⟩, A400, H⟩ := H
    have A40 := Aside0.mk A400
    clear A400
    replace H := Option.bind_eq_some_iff.mp H
    obtain ⟨⟨t556, t557⟩, A410, H⟩ := H
    have A41 := Aside0.mk A410
    clear A410
    replace H := Option.bind_eq_some_iff.mp H
    obtain ⟨⟨t558, t559⟩, A420, H⟩ := H
    have A42 := Aside0.mk A420
    clear A420
    simp only [Option.some.injEq, Prod.mk.injEq] at H
    obtain ⟨rfl, rfl⟩ := H
    obtain ⟨hnb43, hnc43⟩ := nB NB544_545
    obtain ⟨hnb44, hnc44⟩ := nB NB544_546
    obtain ⟨hcz45_0, hcz45_1, hcz45_2, hfz45_0, hfz45_1, hfz45_2⟩ := bK3 (w := wc) BK544
    obtain ⟨hnb46, hnc46⟩ := nB NB545_546
    obtain ⟨hcz47_0, hcz47_1, hcz47_2, hfz47_0, hfz47_1, hfz47_2⟩ := bK3 (w := wc) BK545
    try go_wp2_with (first | (refine gC (some 25) Tryz.func102 #[.agg #[.int .i64 a0_0, .int .i64 a0_1, .bool a0_2], .agg #[.int .i64 a1_0, .int .i64 a1_1, .bool a1_2]] ?_; (with_reducible refine (impl_Miller.calls kj2 a0_0 a0_1 a0_2 a1_0 a1_1 a1_2 t549 t550 _ A38.out).mono ?_); rintro e w48 ⟨rfl, hb⟩; refine ⟨_, rfl, ?_⟩; replace BK544 := bB BK544 hb; replace BK545 := bB BK545 hb; replace BK546 := bB BK546 hb; replace HB := bS HB hb; (try clear hb)) | (refine gB 5 #[.int .i64 0, .int .i64 0] 75 ?_; intro gb551 hg w49 BK551 hb; have GW551 := bG HB hg; replace HB := bS HB hb; obtain ⟨NB544_551, NB551_544⟩ := bN BK544 hg; replace BK544 := bB BK544 hb; obtain ⟨NB545_551, NB551_545⟩ := bN BK545 hg; replace BK545 := bB BK545 hb; obtain ⟨NB546_551, NB551_546⟩ := bN BK546 hg; replace BK546 := bB BK546 hb; clear hb hg; obtain ⟨hnb50, hnc50⟩ := nB NB551_544; obtain ⟨hnb51, hnc51⟩ := nB NB551_545; obtain ⟨hnb52, hnc52⟩ := nB NB551_546; obtain ⟨hcz53_0, hcz53_1, hfz53_0, hfz53_1⟩ := bK2 (w := w49) BK551))
    obtain ⟨w54, hW_⟩ : ∃ W_ : World, W_ = ((w49.setCell ⟨gb551, 0, none⟩ (.int .i64 t549)).setCell ⟨gb551, 1, none⟩ (.int .i64 t550)) := ⟨_, rfl⟩
    replace BK544 := bW hW_ BK544
    replace BK545 := bW hW_ BK545
    replace BK546 := bW hW_ BK546
    replace BK551 := bX hW_ 75 #[.int .i64 t549, .int .i64 t550] BK551
    replace HB := zW hW_ HB
    rw [← hW_]
    clear hW_
    replace BK544 := Aside0.mk (blk_drew BK544.out)
    replace BK545 := Aside0.mk (blk_drew BK545.out)
    replace BK546 := Aside0.mk (blk_drew BK546.out)
    replace BK551 := Aside0.mk (blk_drew BK551.out)
    replace HB := Aside0.mk (below_drew1 HB.out)
    refine start_ (n := 7) (S := fun w' => SQ2 w' gb551 (.int .i64 t549) (.int .i64 t550)) (ds := []) #[false, false, false, false, false, false, false] (by kernel_rfl) rfl rfl (bT2 BK551) (fun hHeld => ?_)
    generalize w54.drew = w55 at BK544 BK545 BK546 BK551 HB hHeld ⊢
    refine tJ 0 (some 26) hHeld ?_
    refine tJ 2 (some 28) hHeld ?_
    refine one_ (i := 1) (N := some 27) #[true, true, true, false, false, false, false] rfl rfl (by kernel_rfl) (by decide) (fun K hK => ?_)
    refine gO Tryz.func105 #[.agg #[.int .i64 t549, .int .i64 t550]] ?_
    with_reducible refine (impl_TwoTurn.calls t549 t550 t552 t553 _ A39.out).mono ?_
    rintro e w56 ⟨rfl, hb⟩
    refine ⟨_, rfl, ?_⟩
    replace BK544 := bB BK544 hb
    replace BK545 := bB BK545 hb
    replace BK546 := bB BK546 hb
    replace BK551 := bB BK551 hb
    replace HB := bS HB hb
    (try clear hb)
    refine hK.out _ _ (bT2 BK551) (fun hHeld => ?_)
    clear hK K
    refine nO (some 27) ?_
    refine one_ (i := 3) (N := some 29) #[true, true, true, true, false, false, false] rfl rfl (by kernel_rfl) (by decide) (fun K hK => ?_)
    refine gO Tryz.func106 #[.agg #[.int .i64 t549, .int .i64 t550]] ?_
    with_reducible refine (impl_TwoInv.calls kj2 t549 t550 t554 t555 _ A40.out).mono ?_
    rintro e w57 ⟨rfl, hb⟩
    refine ⟨_, rfl, ?_⟩
    replace BK544 := bB BK544 hb
    replace BK545 := bB BK545 hb
    replace BK546 := bB BK546 hb
    replace BK551 := bB BK551 hb
    replace HB := bS HB hb
    (try clear hb)
    refine hK.out _ _ (bT2 BK551) (fun hHeld => ?_)
    clear hK K
    refine nO (some 29) ?_
    refine one_ (i := 4) (N := some 30) #[true, true, true, true, true, false, false] rfl rfl (by kernel_rfl) (by decide) (fun K hK => ?_)
    refine gO Tryz.func104 #[.agg #[.int .i64 t552, .int .i64 t553], .agg #[.int .i64 t554, .int .i64 t555]] ?_
    with_reducible refine (impl_TwoMul.calls t552 t553 t554 t555 t556 t557 _ A41.out).mono ?_
    rintro e w58 ⟨rfl, hb⟩
    refine ⟨_, rfl, ?_⟩
    replace BK544 := bB BK544 hb
    replace BK545 := bB BK545 hb
    replace BK546 := bB BK546 hb
    replace BK551 := bB BK551 hb
    replace HB := bS HB hb
    (try clear hb)
    refine hK.out _ _ (bT2 BK551) (fun hHeld => ?_)
    clear hK K
    refine nO (some 30) ?_
    refine one_ (i := 5) (N := some 31) #[true, true, true, true, true, true, false] rfl rfl (by kernel_rfl) (by decide) (fun K hK => ?_)
    refine gO Tryz.func103 #[.agg #[.int .i64 t556, .int .i64 t557], .int .i64 12] ?_
    with_reducible refine (impl_TwoPow.calls kj2 t556 t557 12 t558 t559 _ A42.out).mono ?_
    rintro e w59 ⟨rfl, hb⟩
    refine ⟨_, rfl, ?_⟩
    replace BK544 := bB BK544 hb
    replace BK545 := bB BK545 hb
    replace BK546 := bB BK546 hb
    replace BK551 := bB BK551 hb
    replace HB := bS HB hb
    (try clear hb)
    refine hK.out _ _ (bT2 BK551) (fun hHeld => ?_)
    clear hK K
    refine nO (some 31) ?_
    refine one_ (i := 6) (N := none) #[true, true, true, true, true, true, true] rfl rfl (by kernel_rfl) (by decide) (fun K hK => ?_)
    have hs60 : w59.cell? ⟨gb546, 0, none⟩ = some (.int .i64 0) := bc BK546 0
    have hfs60 := blk_frozen BK546.out 0
    have hns60_0 := NB544_546.out
    have hns60_1 := NB545_546.out
    have hns60_3 := NB551_546.out
    have hms60_0 := NB546_544.out
    have hms60_1 := NB546_545.out
    have hms60_3 := NB546_551.out
    have hs61 : w59.cell? ⟨gb546, 1, none⟩ = some (.int .i64 0) := bc BK546 1
    have hfs61 := blk_frozen BK546.out 1
    have hns61_0 := NB544_546.out
    have hns61_1 := NB545_546.out
    have hns61_3 := NB551_546.out
    have hms61_0 := NB546_544.out
    have hms61_1 := NB546_545.out
    have hms61_3 := NB546_551.out
    refine skip_ (w1 := ?_) (by rfl) rfl ?_ ?_
    rotate_left
    ·go_simp
     rfl
    refine hK.out _ _ ⟨((cell_far (p := ⟨gb546, _, none⟩) NB551_546.out _).trans (((cell_far (p := ⟨gb546, _, none⟩) NB551_546.out _).trans (hHeld.1)))), ((cell_far (p := ⟨gb546, _, none⟩) NB551_546.out _).trans (((cell_far (p := ⟨gb546, _, none⟩) NB551_546.out _).trans (hHeld.2))))⟩ (fun hHeld => ?_)
    clear hK K
    refine done_ (by kernel_rfl) ?_
    try go_wp2
    refine rC gb546 75 #[.int .i64 t558, .int .i64 t559] (bU BK546) Tryz.underlying75 ?_
    exact ⟨rR, bZ HB⟩
end Go.Proofs.YtkdmplfldfagnaaGreatDoor.Pf
end
section
namespace Go.Proofs.YtkdmplfldfagnaaGreatDoor.Pf
open Go.RowKit Go.Proofs.YtkdmplfldfagnaaGreatDoorW.PrintWords Go.Proofs.YtkdmplfldfagnaaGreatDoorW.PrintLast Go.Proofs.YtkdmplfldfagnaaGreatDoorW.PrintMore
attribute [local go_sem] max2_int min2_int max_two min_two max_three min_three max_four min_four   -- for this text's walks alone
set_option linter.unusedVariables false
set_option linter.unusedSimpArgs false
attribute [local go_sem high] eqA75
def impl_SigOk.j0 : Nat → ByteArray → Bool → Int → Int → Bool → Int → Int → Bool → Option (Bool)
 | 0, _, _, _, _, _, _, _, _ => none
 | k + 1, x1, x22, x561000, x561001, x561002, x562000, x562001, x562002 => if x22 = true then (some false) else ((impl_Base.f).bind fun bt564 => ((impl_Pairing.f k x562000 x562001 x562002 bt564.1 bt564.2.1 bt564.2.2).bind fun bt567 => ((impl_HashPoint.f k x1).bind fun bt569 => ((impl_Pairing.f k bt569.1 bt569.2.1 bt569.2.2 x561000 x561001 x561002).bind fun bt572 => (some (bt567.1 == bt572.1 && (bt567.2 == bt572.2)))))))
def impl_SigOk.f (k : Nat) (a0_0 : Int) (a0_1 : Int) (a0_2 : Bool) (a1 : ByteArray) (a2_0 : Int) (a2_1 : Int) (a2_2 : Bool) : Option (Bool) := if a0_2 = true then (impl_SigOk.j0 k a1 true a0_0 a0_1 a0_2 a2_0 a2_1 a2_2) else (if a2_2 = true then (impl_SigOk.j0 k a1 true a0_0 a0_1 a0_2 a2_0 a2_1 a2_2) else ((impl_InGroup.f k a0_0 a0_1 a0_2).bind fun t562 => (if t562 = true then ((impl_InGroup.f k a2_0 a2_1 a2_2).bind fun t563 => (impl_SigOk.j0 k a1 (!t563) a0_0 a0_1 a0_2 a2_0 a2_1 a2_2)) else (impl_SigOk.j0 k a1 true a0_0 a0_1 a0_2 a2_0 a2_1 a2_2))))
def impl_SigOk.T3 : Bool × List (List Nat × List Nat) := (true, [([], []), ([], []), ([0, 1, 1], [0, 1]), ([], []), ([3, 2], [3]), ([], []), ([4, 5, 4], [4, 5]), ([2, 6], [2, 6]), ([7, 6, 0, 1, 2, 3, 4, 5, 6, 7], [7])])
def impl_SigOk.B3 : List Nat := [0, 0, 3, 0, 15, 0, 63, 127, 255]
theorem impl_SigOk.tab3 : rtab .any (opsOf Tryz.f19 3) = impl_SigOk.T3 := by kernel_rfl
theorem impl_SigOk.bits3 : waitsOk impl_SigOk.T3.2 impl_SigOk.B3 = true := by kernel_rfl
set_option maxHeartbeats 8000000 in
set_option maxRecDepth 100000 in
theorem impl_SigOk.calls (k : Nat) (a0_0 : Int) (a0_1 : Int) (a0_2 : Bool) (a1 : ByteArray) (a2_0 : Int) (a2_1 : Int) (a2_2 : Bool) (r : Bool) (w : World) (hT : Kp.Tab w) (h : impl_SigOk.f k a0_0 a0_1 a0_2 a1 a2_0 a2_1 a2_2 = some r) :
  Calls Tryz.prog 19 #[.agg #[.int .i64 a0_0, .int .i64 a0_1, .bool a0_2], .string a1, .agg #[.int .i64 a2_0, .int .i64 a2_1, .bool a2_2]] w fun e w' => e = .returned (.bool r) ∧ Below w.heap.size w w' := by
 have HT := Aside0.mk hT
 clear hT
 have hu28 := Tryz.underlying28
 have HB := Aside0.mk (Below.refl w.heap.size w)
 have H : (if a0_2 = true then (impl_SigOk.j0 k a1 true a0_0 a0_1 a0_2 a2_0 a2_1 a2_2) else (if a2_2 = true then (impl_SigOk.j0 k a1 true a0_0 a0_1 a0_2 a2_0 a2_1 a2_2) else ((impl_InGroup.f k a0_0 a0_1 a0_2).bind fun t562 => (if t562 = true then ((impl_InGroup.f k a2_0 a2_1 a2_2).bind fun t563 => (impl_SigOk.j0 k a1 (!t563) a0_0 a0_1 a0_2 a2_0 a2_1 a2_2)) else (impl_SigOk.j0 k a1 true a0_0 a0_1 a0_2 a2_0 a2_1 a2_2))))) = some r := h
 clear h
 have HC4 := Aside0.mk H
 clear H
 go_enter Tryz.func19, Tryz.ntmps19
 go_upto_region 1 with (first | (refine gB 3 #[.int .i64 a0_0, .int .i64 a0_1, .bool a0_2] 28 ?_; intro gb560 hg w5 BK560 hb; have GW560 := bG HB hg; replace HB := bS HB hb; clear hb hg) | (refine gB 5 #[.int .i64 a2_0, .int .i64 a2_1, .bool a2_2] 28 ?_; intro gb561 hg w6 BK561 hb; have GW561 := bG HB hg; replace HB := bS HB hb; obtain ⟨NB560_561, NB561_560⟩ := bN BK560 hg; replace BK560 := bB BK560 hb; clear hb hg))
 (try simp only [Act.put, List.setIfInBounds_toArray, List.set_cons_zero, List.set_cons_succ])
 go_cut [22] (fun v22 wc => ∃ (kq : Nat) (x22_3 : Bool), v22 = .bool x22_3 ∧ Aside0 (impl_SigOk.j0 kq a1 x22_3 a0_0 a0_1 a0_2 a2_0 a2_1 a2_2 = some r) ∧ Aside0 (kq ≤ k) ∧ Aside0 (wc.heap[gb560]? = some (.cells #[.int .i64 a0_0, .int .i64 a0_1, .bool a0_2] 28 (0, 0))) ∧ Aside0 (wc.heap[gb561]? = some (.cells #[.int .i64 a2_0, .int .i64 a2_1, .bool a2_2] 28 (0, 0))) ∧ Aside0 (Below w.heap.size w wc))
 case first =>
  have H := HC4.out
  clear HC4
  by_cases c7 : a0_2 = true
  ·subst c7
   rw [if_pos rfl] at H
   have H' := Aside0.mk H
   clear H
   obtain ⟨hnb8, hnc8⟩ := nB NB560_561
   obtain ⟨hcz9_0, hcz9_1, hcz9_2, hfz9_0, hfz9_1, hfz9_2⟩ := bK3 (w := w6) BK560
   go_wp2
   go_meet
   case rel => exact ⟨_, (true), rS, H', ⟨by first | omega | exact Nat.le_refl _⟩, ⟨bP BK560⟩, ⟨bP BK561⟩, ⟨bZ HB⟩⟩
  ·replace c7 := Bool.eq_false_iff.mpr c7
   subst c7
   rw [if_neg (show ¬ (false = true) by decide)] at H
   by_cases c10 : a2_2 = true
   ·subst c10
    rw [if_pos rfl] at H
    have H' := Aside0.mk H
    clear H
    obtain ⟨hnb11, hnc11⟩ := nB NB560_561
    obtain ⟨hcz12_0, hcz12_1, hcz12_2, hfz12_0, hfz12_1, hfz12_2⟩ := bK3 (w := w6) BK560
    obtain ⟨hcz13_0, hcz13_1, hcz13_2, hfz13_0, hfz13_1, hfz13_2⟩ := bK3 (w := w6) BK561
    go_wp2
    go_meet
    case rel => exact ⟨_, (true), rS, H', ⟨by first | omega | exact Nat.le_refl _⟩, ⟨bP BK560⟩, ⟨bP BK561⟩, ⟨bZ HB⟩⟩
   ·replace c10 := Bool.eq_false_iff.mpr c10
    subst c10
    rw [if_neg (show ¬ (false = true) by decide)] at H
    replace H := Option.bind_eq_some_iff.mp H
    obtain ⟨t562, A140, H⟩ := H
    have A14 := Aside0.mk A140
    clear A140
    by_cases c15 : t562 = true
    ·subst c15
     rw [if_pos rfl] at H
     replace H := Option.bind_eq_some_iff.mp H
     obtain ⟨t563, A160, H⟩ := H
     have A16 := Aside0.mk A160
     clear A160
     have H' := Aside0.mk H
     clear H
     obtain ⟨hnb17, hnc17⟩ := nB NB560_561
     obtain ⟨hcz18_0, hcz18_1, hcz18_2, hfz18_0, hfz18_1, hfz18_2⟩ := bK3 (w := w6) BK560
     obtain ⟨hcz19_0, hcz19_1, hcz19_2, hfz19_0, hfz19_1, hfz19_2⟩ := bK3 (w := w6) BK561
     go_wp2_with (first | (go_at_call 21; (with_reducible refine (impl_InGroup.calls k a0_0 a0_1 false true _ A14.out).mono ?_); rintro e w20 ⟨rfl, hb⟩; replace BK560 := bB BK560 hb; replace BK561 := bB BK561 hb; replace HB := bS HB hb; (try clear hb); obtain ⟨hcz21_0, hcz21_1, hcz21_2, hfz21_0, hfz21_1, hfz21_2⟩ := bK3 (w := w20) BK561) | (go_at_call 21; (with_reducible refine (impl_InGroup.calls k a2_0 a2_1 false t563 _ A16.out).mono ?_); rintro e w22 ⟨rfl, hb⟩; replace BK560 := bB BK560 hb; replace BK561 := bB BK561 hb; replace HB := bS HB hb; (try clear hb)))
     go_meet
     case rel => exact ⟨_, (!t563), rS, H', ⟨by first | omega | exact Nat.le_refl _⟩, ⟨bP BK560⟩, ⟨bP BK561⟩, ⟨bZ HB⟩⟩
    ·replace c15 := Bool.eq_false_iff.mpr c15
     subst c15
     rw [if_neg (show ¬ (false = true) by decide)] at H
     have H' := Aside0.mk H
     clear H
     obtain ⟨hnb23, hnc23⟩ := nB NB560_561
     obtain ⟨hcz24_0, hcz24_1, hcz24_2, hfz24_0, hfz24_1, hfz24_2⟩ := bK3 (w := w6) BK560
     obtain ⟨hcz25_0, hcz25_1, hcz25_2, hfz25_0, hfz25_1, hfz25_2⟩ := bK3 (w := w6) BK561
     go_wp2_with (first | (go_at_call 21; (with_reducible refine (impl_InGroup.calls k a0_0 a0_1 false false _ A14.out).mono ?_); rintro e w26 ⟨rfl, hb⟩; replace BK560 := bB BK560 hb; replace BK561 := bB BK561 hb; replace HB := bS HB hb; (try clear hb)))
     go_meet
     case rel => exact ⟨_, (true), rS, H', ⟨by first | omega | exact Nat.le_refl _⟩, ⟨bP BK560⟩, ⟨bP BK561⟩, ⟨bZ HB⟩⟩
 case rest =>
  clear HC4
  try clear c1
  try clear c2
  try clear p2
  try clear c7
  try clear c8
  try clear c10
  try clear c11
  try clear c15
  try clear c17
  try clear c19
  try clear c23
  try clear hcz12_0
  try clear hcz12_1
  try clear hcz12_2
  try clear hcz13_0
  try clear hcz13_1
  try clear hcz13_2
  try clear hcz18_0
  try clear hcz18_1
  try clear hcz18_2
  try clear hcz19_0
  try clear hcz19_1
  try clear hcz19_2
  try clear hcz21_0
  try clear hcz21_1
  try clear hcz21_2
  try clear hcz24_0
  try clear hcz24_1
  try clear hcz24_2
  try clear hcz25_0
  try clear hcz25_1
  try clear hcz25_2
  try clear hcz9_0
  try clear hcz9_1
  try clear hcz9_2
  try clear hfz12_0
  try clear hfz12_1
  try clear hfz12_2
  try clear hfz13_0
  try clear hfz13_1
  try clear hfz13_2
  try clear hfz18_0
  try clear hfz18_1
  try clear hfz18_2
  try clear hfz19_0
  try clear hfz19_1
  try clear hfz19_2
  try clear hfz21_0
  try clear hfz21_1
  try clear hfz21_2
  try clear hfz24_0
  try clear hfz24_1
  try clear hfz24_2
  try clear hfz25_0
  try clear hfz25_1
  try clear hfz25_2
  try clear hfz9_0
  try clear hfz9_1
  try clear hfz9_2
  obtain ⟨kq, x22_3, rfl, HA, HJ3, BK560, BK561, HB⟩ := hcut
  cases kq with
  | zero => exact absurd HA.out (by simp [impl_SigOk.j0])
  | succ kj3 =>
   have H := HA.out
   clear HA
   simp only [impl_SigOk.j0] at H
   by_cases c27 : x22_3 = true
   ·subst c27
    rw [if_pos rfl] at H
    obtain rfl := Option.some.inj H
    go_wp2
    go_ret
    exact ⟨rR, bZ HB⟩
   ·replace c27 := Bool.eq_false_iff.mpr c27
    subst c27
    rw [if_neg (show ¬ (false = true) by decide)] at H
    replace H := Option.bind_eq_some_iff.mp H
    obtain ⟨⟨t564, t565, t566⟩, A280, H⟩ := H
    have A28 := Aside0.mk A280
    clear A280
    replace H := Option.bind_eq_some_iff.mp H
    obtain ⟨⟨t567, t568⟩, A290, H⟩ := H
    have A29 := Aside0.mk A290
    clear A290
    replace H := Option.bind_eq_some_iff.mp H
    obtain ⟨⟨t569, t570, t571⟩, A300, H⟩ := H
    have A30 := Aside0.mk A300
    clear A300
    replace H := Option.bind_eq_some_iff.mp H
    obtain ⟨⟨t572, t573⟩, A310, H⟩ := H
    have A31 := Aside0.mk A310
    clear A310
    obtain rfl := Option.some.inj H
    try go_wp2
    replace BK560 := Aside0.mk (blk_drew BK560.out)
    replace BK561 := Aside0.mk (blk_drew BK561.out)
    replace HB := Aside0.mk (below_drew1 HB.out)
    refine start_ (n := 9) (S := fun w' => SP3 w' gb561 (.int .i64 a2_0) (.int .i64 a2_1) (.bool a2_2) (SQ3 w' gb560 (.int .i64 a0_0) (.int .i64 a0_1) (.bool a0_2))) (ds := []) #[false, false, false, false, false, false, false, false, false] (by kernel_rfl) rfl rfl (bS3 BK561 (bT3 BK560)) (fun hHeld => ?_); refine with_tabW impl_SigOk.tab3 impl_SigOk.bits3 (fun HT_ HW_ => ?_)
    generalize wc.drew = w32 at BK560 BK561 HB hHeld ⊢
    refine pI 3 (some 26) HT_.out ?_
    refine tI6 0 (some 23) HT_.out HW_.out hHeld ?_
    refine tI6 5 (some 28) HT_.out HW_.out hHeld ?_
    refine oI 1 (some 24) HT_.out (fun K hK => ?_)
    refine gO Tryz.func20 #[] ?_
    with_reducible refine (impl_Base.calls  t564 t565 t566 _ A28.out).mono ?_
    rintro e w33 ⟨rfl, hb⟩
    refine ⟨_, rfl, ?_⟩
    replace BK560 := bB BK560 hb
    replace BK561 := bB BK561 hb
    replace HB := bS HB hb
    (try clear hb)
    refine hK.out _ _ (bS3 BK561 (bT3 BK560)) (fun hHeld => ?_)
    clear hK K
    refine nO (some 24) ?_
    refine oI 2 (some 25) HT_.out (fun K hK => ?_)
    refine gO Tryz.func60 #[.agg #[.int .i64 a2_0, .int .i64 a2_1, .bool a2_2], .agg #[.int .i64 t564, .int .i64 t565, .bool t566]] ?_
    with_reducible refine (impl_Pairing.calls kj3 a2_0 a2_1 a2_2 t564 t565 t566 t567 t568 _ A29.out).mono ?_
    rintro e w34 ⟨rfl, hb⟩
    refine ⟨_, rfl, ?_⟩
    replace BK560 := bB BK560 hb
    replace BK561 := bB BK561 hb
    replace HB := bS HB hb
    (try clear hb)
    refine hK.out _ _ (bS3 BK561 (bT3 BK560)) (fun hHeld => ?_)
    clear hK K
    refine nO (some 25) ?_
    refine oI 4 (some 27) HT_.out (fun K hK => ?_)
    refine gO Tryz.func17 #[.string a1] ?_
    with_reducible refine (impl_HashPoint.calls kj3 a1 t569 t570 t571 _ (Kp.Tab.below HT.out (bZ HB)) A30.out).mono ?_
    rintro e w35 ⟨rfl, hb⟩
    refine ⟨_, rfl, ?_⟩
    replace BK560 := bB BK560 hb
    replace BK561 := bB BK561 hb
    replace HB := bS HB hb
    (try clear hb)
    refine hK.out _ _ (bS3 BK561 (bT3 BK560)) (fun hHeld => ?_)
    clear hK K
    refine nO (some 27) ?_
    refine oI 6 (some 29) HT_.out (fun K hK => ?_)
    refine gO Tryz.func60 #[.agg #[.int .i64 t569, .int .i64 t570, .bool t571], .agg #[.int .i64 a0_0, .int .i64 a0_1, .bool a0_2]] ?_
    with_reducible refine (impl_Pairing.calls kj3 t569 t570 t571 a0_0 a0_1 a0_2 t572 t573 _ A31.out).mono ?_
    rintro e w36 ⟨rfl, hb⟩
    refine ⟨_, rfl, ?_⟩
    replace BK560 := bB BK560 hb
    replace BK561 := bB BK561 hb
    replace HB := bS HB hb
    (try clear hb)
    refine hK.out _ _ (bS3 BK561 (bT3 BK560)) (fun hHeld => ?_)
    clear hK K
    refine nO (some 29) ?_
    refine pI 7 (some 30) HT_.out ?_
    refine pI 8 (some 6) HT_.out ?_
    refine done_ (done_of HT_.out (by kernel_rfl)) ?_
    try go_wp2
    go_ret
    exact ⟨rR, bZ HB⟩
end Go.Proofs.YtkdmplfldfagnaaGreatDoor.Pf
end
section
namespace Go.Proofs.YtkdmplfldfagnaaGreatDoor.Pf
open Go.RowKit Go.Proofs.YtkdmplfldfagnaaGreatDoorW.PrintWords Go.Proofs.YtkdmplfldfagnaaGreatDoorW.PrintLast Go.Proofs.YtkdmplfldfagnaaGreatDoorW.PrintMore
attribute [local go_sem] max2_int min2_int max_two min_two max_three min_three max_four min_four   -- for this text's walks alone
set_option linter.unusedVariables false
set_option linter.unusedSimpArgs false
def impl_SumPoints.l0 : Nat → List (S28) → Int → Int → Int → Int → Bool → Option (Int × Int × Bool)
 | 0, _, _, _, _, _, _ => none
 | k + 1, x7, x8, x9, x797000, x797001, x797002 => if x9 < x8 then (if 0 ≤ x9 then (if x9 < (x7.length : Int) then ((impl_PointAdd.f k x797000 x797001 x797002 ((rd_T28 x7 x9).f0) ((rd_T28 x7 x9).f1) ((rd_T28 x7 x9).f2)).bind fun bt799 => (impl_SumPoints.l0 k x7 x8 (wrap64 (x9 + 1)) bt799.1 bt799.2.1 bt799.2.2)) else (none)) else (none)) else (some (x797000, x797001, x797002))
def impl_SumPoints.f (k : Nat) (l0 : List (S28)) : Option (Int × Int × Bool) := impl_SumPoints.l0 k l0 (l0.length : Int) 0 0 0 true
set_option maxHeartbeats 8000000 in
set_option maxRecDepth 100000 in
theorem impl_SumPoints.calls (k : Nat) (A0 : Option Addr) (c0 : Nat) (l0 : List (S28)) (r1 : Int) (r2 : Int) (r3 : Bool) (w : World) (hr0 : Kd.C k28 w A0 l0.length l0) (hc0 : l0.length ≤ c0) (h : impl_SumPoints.f k l0 = some (r1, r2, r3)) :
  Calls Tryz.prog 53 #[.slice A0 l0.length c0] w fun e w' => e = .returned (.agg #[.int .i64 r1, .int .i64 r2, .bool r3]) ∧ Below w.heap.size w w' := by
 have hu28 := Tryz.underlying28
 have HR0 := Aside0.mk hr0
 have HC0 := Aside0.mk hc0
 clear hr0 hc0
 have HB := Aside0.mk (Below.refl w.heap.size w)
 have H : (impl_SumPoints.l0 k l0 (l0.length : Int) 0 0 0 true) = some (r1, r2, r3) := h
 clear h
 have H' := Aside0.mk H
 clear H
 go_enter Tryz.func53, Tryz.ntmps53
 go_wp2_with (first | (refine gB 2 #[.int .i64 0, .int .i64 0, .bool false] 28 ?_; intro gb795 hg w2 BK795 hb; have GW795 := bG HB hg; replace HB := bS HB hb; clear hb hg) | (refine gB 3 #[.int .i64 0, .int .i64 0, .bool false] 28 ?_; intro gb796 hg w3 BK796 hb; have GW796 := bG HB hg; replace HB := bS HB hb; obtain ⟨NB795_796, NB796_795⟩ := bN BK795 hg; replace BK795 := bB BK795 hb; clear hb hg; obtain ⟨hnb4, hnc4⟩ := nB NB796_795; obtain ⟨hcz5_0, hcz5_1, hcz5_2, hfz5_0, hfz5_1, hfz5_2⟩ := bK3 (w := w3) BK796))
 go_loopg [9] k (fun kq v9 w' => ∃ (x9_1 : Int) (x797000_1 : Int) (x797001_1 : Int) (x797002_1 : Bool), v9 = .int .i64 x9_1 ∧ Aside0 (impl_SumPoints.l0 kq l0 (l0.length : Int) x9_1 x797000_1 x797001_1 x797002_1 = some (r1, r2, r3)) ∧ Aside0 (kq ≤ k) ∧ Aside0 (w'.heap[gb795]? = some (.cells #[.int .i64 0, .int .i64 0, .bool false] 28 (0, 0))) ∧ Aside0 (w'.heap[gb796]? = some (.cells #[.int .i64 x797000_1, .int .i64 x797001_1, .bool x797002_1] 28 (0, 0))) ∧ Aside0 (Below w.heap.size w w'))
 case atStart => exact ⟨(0), (0), (0), (true), rS, H', ⟨Nat.le_refl _⟩, ⟨bP BK795⟩, ⟨bU BK796⟩, ⟨bZ HB⟩⟩
 case round =>
  clear H'
  try clear p2
  try clear c4
  try clear c5
  try clear hcz5_0
  try clear hcz5_1
  try clear hcz5_2
  try clear hfz5_0
  try clear hfz5_1
  try clear hfz5_2
  obtain ⟨x9_1, x797000_1, x797001_1, x797002_1, rfl, HA, HK1, BK795, BK796, HB⟩ := hrel
  cases gk with
  | zero => exact absurd HA.out (by simp [impl_SumPoints.l0])
  | succ k1 =>
   have H := HA.out
   clear HA
   simp only [impl_SumPoints.l0] at H
   by_cases c6 : x9_1 < (l0.length : Int)
   ·rw [if_pos c6] at H
    have c6b0 := decide_eq_true c6
    clear c6
    by_cases c7 : 0 ≤ x9_1
    ·rw [if_pos c7] at H
     have c7b0 := decide_eq_true c7
     clear c7
     by_cases c8 : x9_1 < (l0.length : Int)
     ·rw [if_pos c8] at H
      have c8b0 := decide_eq_true c8
      clear c8
      replace H := Option.bind_eq_some_iff.mp H
      obtain ⟨⟨t799, t800, t801⟩, A90, H⟩ := H
      have A9 := Aside0.mk A90
      clear A90
      have H' := Aside0.mk H
      clear H
      have p797 : 0 ≤ (x9_1 : Int) := of_decide_eq_true (by first | (with_reducible assumption) | assumption)
      have q797 : x9_1 < (l0.length : Int) := of_decide_eq_true (by first | (with_reducible assumption) | assumption)
      obtain ⟨ad797, e797, hx797_0, hx797_1, hx797_2⟩ := at_T28 HR0.out x9_1 p797 q797
      cases e797
      replace hx797_0 := hC HB hx797_0
      replace hx797_1 := hC HB hx797_1
      replace hx797_2 := hC HB hx797_2
      replace p797 := eq_true p797
      replace q797 := eq_true q797
      go_wp2_with (first | (refine gB 5 #[.int .i64 0, .int .i64 0, .bool false] 28 ?_; intro gb798 hg w10 BK798 hb; have GW798 := bG HB hg; replace HB := bS HB hb; obtain ⟨NB795_798, NB798_795⟩ := bN BK795 hg; replace BK795 := bB BK795 hb; obtain ⟨NB796_798, NB798_796⟩ := bN BK796 hg; replace BK796 := bB BK796 hb; clear hb hg; obtain ⟨hnb11, hnc11⟩ := nB NB798_795; obtain ⟨hnb12, hnc12⟩ := nB NB798_796; obtain ⟨hcz13_0, hcz13_1, hcz13_2, hfz13_0, hfz13_1, hfz13_2⟩ := bK3 (w := w10) BK798; obtain ⟨hnb14, hnc14⟩ := nB NB796_795; obtain ⟨hcz15_0, hcz15_1, hcz15_2, hfz15_0, hfz15_1, hfz15_2⟩ := bK3 (w := w10) BK796) | (refine gC (some 15) Tryz.func9 #[.agg #[.int .i64 x797000_1, .int .i64 x797001_1, .bool x797002_1], .agg #[.int .i64 ((rd_T28 l0 x9_1).f0), .int .i64 ((rd_T28 l0 x9_1).f1), .bool ((rd_T28 l0 x9_1).f2)]] ?_; (with_reducible refine (impl_PointAdd.calls k1 x797000_1 x797001_1 x797002_1 ((rd_T28 l0 x9_1).f0) ((rd_T28 l0 x9_1).f1) ((rd_T28 l0 x9_1).f2) t799 t800 t801 _ A9.out).mono ?_); rintro e w16 ⟨rfl, hb⟩; refine ⟨_, rfl, ?_⟩; replace BK795 := bB BK795 hb; replace BK796 := bB BK796 hb; replace BK798 := bV 28 #[.int .i64 ((rd_T28 l0 x9_1).f0), .int .i64 ((rd_T28 l0 x9_1).f1), .bool ((rd_T28 l0 x9_1).f2)] BK798 hb; replace HB := bS HB hb; (try clear hb); obtain ⟨hcz17_0, hcz17_1, hcz17_2, hfz17_0, hfz17_1, hfz17_2⟩ := bK3 (w := w16) BK796))
      go_roundg k1
      case measure => have := HK1.out; omega
      case rel => exact ⟨(wrap64 (x9_1 + 1)), (t799), (t800), (t801), rS, H', ⟨by have := HK1.out; omega⟩, ⟨bP BK795⟩, ⟨bU BK796⟩, ⟨bZ HB⟩⟩
     ·rw [if_neg c8] at H
      exact absurd H (by simp)
    ·rw [if_neg c7] at H
     exact absurd H (by simp)
   ·rw [if_neg c6] at H
    have c6b0 := decide_eq_false c6
    clear c6
    simp only [Option.some.injEq, Prod.mk.injEq] at H
    obtain ⟨rfl, rfl, rfl⟩ := H
    obtain ⟨hnb18, hnc18⟩ := nB NB796_795
    obtain ⟨hcz19_0, hcz19_1, hcz19_2, hfz19_0, hfz19_1, hfz19_2⟩ := bK3 (w := wr) BK796
    obtain ⟨hcz20_0, hcz20_1, hcz20_2, hfz20_0, hfz20_1, hfz20_2⟩ := bK3 (w := wr) BK795
    go_wp2
    refine rC gb795 28 #[.int .i64 x797000_1, .int .i64 x797001_1, .bool x797002_1] (bU BK795) Tryz.underlying28 ?_
    exact ⟨rR, bZ HB⟩
def impl_AllSigOk.f (k : Nat) (l0 : List (S28)) (a1 : ByteArray) (a2_0 : Int) (a2_1 : Int) (a2_2 : Bool) : Option (Bool) := if (l0.length : Int) > 0 then ((impl_SumPoints.f k l0).bind fun bt803 => ((impl_SigOk.f k bt803.1 bt803.2.1 bt803.2.2 a1 a2_0 a2_1 a2_2).bind fun t806 => (some t806))) else (some false)
def impl_AllSigOk.T1 : Bool × List (List Nat × List Nat) := (true, [([], []), ([0], [0]), ([1], [1]), ([2], [2]), ([3], [3]), ([4, 3, 3], [3, 4]), ([3], [3]), ([3], [3]), ([5, 6, 7, 5, 3], [3, 5, 6, 7]), ([3, 8], [3, 8]), ([9, 8, 0, 1, 2, 3, 4, 5, 6, 7, 8, 9], [9])])
def impl_AllSigOk.B1 : List Nat := [0, 1, 3, 7, 15, 31, 15, 15, 255, 511, 1023]
theorem impl_AllSigOk.tab1 : rtab .any (opsOf Tryz.f13 1) = impl_AllSigOk.T1 := by kernel_rfl
theorem impl_AllSigOk.bits1 : waitsOk impl_AllSigOk.T1.2 impl_AllSigOk.B1 = true := by kernel_rfl
set_option maxHeartbeats 8000000 in
set_option maxRecDepth 100000 in
theorem impl_AllSigOk.calls (k : Nat) (A0 : Option Addr) (c0 : Nat) (l0 : List (S28)) (a1 : ByteArray) (a2_0 : Int) (a2_1 : Int) (a2_2 : Bool) (r : Bool) (w : World) (hr0 : Kd.C k28 w A0 l0.length l0) (hc0 : l0.length ≤ c0) (hT : Kp.Tab w) (h : impl_AllSigOk.f k l0 a1 a2_0 a2_1 a2_2 = some r) :
  Calls Tryz.prog 13 #[.slice A0 l0.length c0, .string a1, .agg #[.int .i64 a2_0, .int .i64 a2_1, .bool a2_2]] w fun e w' => e = .returned (.bool r) ∧ Below w.heap.size w w' := by
 have HT := Aside0.mk hT
 clear hT
 have hu28 := Tryz.underlying28
 have HR0 := Aside0.mk hr0
 have HC0 := Aside0.mk hc0
 clear hr0 hc0
 have HB := Aside0.mk (Below.refl w.heap.size w)
 have H : (if (l0.length : Int) > 0 then ((impl_SumPoints.f k l0).bind fun bt803 => ((impl_SigOk.f k bt803.1 bt803.2.1 bt803.2.2 a1 a2_0 a2_1 a2_2).bind fun t806 => (some t806))) else (some false)) = some r := h
 clear h
 by_cases c4 : (l0.length : Int) > 0
 ·rw [if_pos c4] at H
  have c4b0 := decide_eq_true c4
  have c4b1 : decide (0 < l0.length) = true := decide_eq_true (by omega)
  clear c4
  replace H := Option.bind_eq_some_iff.mp H
  obtain ⟨⟨t803, t804, t805⟩, A50, H⟩ := H
  have A5 := Aside0.mk A50
  clear A50
  replace H := Option.bind_eq_some_iff.mp H
  obtain ⟨t806, A60, H⟩ := H
  have A6 := Aside0.mk A60
  clear A60
  obtain rfl := Option.some.inj H
  go_enter Tryz.func13, Tryz.ntmps13
  try go_wp2_with (first | (refine gB 5 #[.int .i64 a2_0, .int .i64 a2_1, .bool a2_2] 28 ?_; intro gb802 hg w7 BK802 hb; have GW802 := bG HB hg; replace HB := bS HB hb; clear hb hg))
  replace BK802 := Aside0.mk (blk_drew BK802.out)
  replace HB := Aside0.mk (below_drew1 HB.out)
  refine start_ (n := 11) (S := fun w' => SQ3 w' gb802 (.int .i64 a2_0) (.int .i64 a2_1) (.bool a2_2)) (ds := []) #[false, false, false, false, false, false, false, false, false, false, false] (by kernel_rfl) rfl rfl (bT3 BK802) (fun hHeld => ?_); refine with_tabW impl_AllSigOk.tab1 impl_AllSigOk.bits1 (fun HT_ HW_ => ?_)
  generalize w7.drew = w8 at BK802 HB hHeld ⊢
  refine pI 0 (some 7) HT_.out ?_
  refine pI 1 (some 8) HT_.out ?_
  refine pI 2 (some 9) HT_.out ?_
  refine pI 3 (some 10) HT_.out ?_
  refine pI 4 (some 11) HT_.out ?_
  refine pI 6 (some 13) HT_.out ?_
  refine tI3 7 (some 14) HT_.out HW_.out hHeld ?_
  refine oI 5 (some 12) HT_.out (fun K hK => ?_)
  refine gO Tryz.func53 #[.slice A0 l0.length c0] ?_
  with_reducible refine (impl_SumPoints.calls k _ _ l0 t803 t804 t805 _ ?side1 ?side2 A5.out).mono ?_
  (case side1 => exact cP (Kd.C_below HR0.out HB.out))
  (case side2 => exact HC0.out)
  rintro e w9 ⟨rfl, hb⟩
  refine ⟨_, rfl, ?_⟩
  replace BK802 := bB BK802 hb
  replace HB := bS HB hb
  (try clear hb)
  refine hK.out _ _ (bT3 BK802) (fun hHeld => ?_)
  clear hK K
  refine nO (some 12) ?_
  refine oI 8 (some 15) HT_.out (fun K hK => ?_)
  refine gO Tryz.func19 #[.agg #[.int .i64 t803, .int .i64 t804, .bool t805], .string a1, .agg #[.int .i64 a2_0, .int .i64 a2_1, .bool a2_2]] ?_
  with_reducible refine (impl_SigOk.calls k t803 t804 t805 a1 a2_0 a2_1 a2_2 t806 _ (Kp.Tab.below HT.out (bZ HB)) A6.out).mono ?_
  rintro e w10 ⟨rfl, hb⟩
  refine ⟨_, rfl, ?_⟩
  replace BK802 := bB BK802 hb
  replace HB := bS HB hb
  (try clear hb)
  refine hK.out _ _ (bT3 BK802) (fun hHeld => ?_)
  clear hK K
  refine nO (some 15) ?_
  refine pI 9 (some 16) HT_.out ?_
  refine pI 10 (some 6) HT_.out ?_
  refine done_ (done_of HT_.out (by kernel_rfl)) ?_
  try go_wp2
  go_ret
  exact ⟨rR, bZ HB⟩
 ·rw [if_neg c4] at H
  have c4b0 := decide_eq_false c4
  have c4b1 : decide (0 < l0.length) = false := decide_eq_false (by omega)
  clear c4
  obtain rfl := Option.some.inj H
  go_enter Tryz.func13, Tryz.ntmps13
  try go_wp2_with (first | (refine gB 5 #[.int .i64 a2_0, .int .i64 a2_1, .bool a2_2] 28 ?_; intro gb802 hg w11 BK802 hb; have GW802 := bG HB hg; replace HB := bS HB hb; clear hb hg))
  replace BK802 := Aside0.mk (blk_drew BK802.out)
  replace HB := Aside0.mk (below_drew1 HB.out)
  refine start_ (n := 11) (S := fun w' => True) (ds := []) #[false, false, false, false, false, false, false, false, false, false, false] (by kernel_rfl) rfl rfl trivial (fun hHeld => ?_); refine with_tabW impl_AllSigOk.tab1 impl_AllSigOk.bits1 (fun HT_ HW_ => ?_)
  generalize w11.drew = w12 at BK802 HB hHeld ⊢
  refine pI 0 (some 7) HT_.out ?_
  refine pI 1 (some 8) HT_.out ?_
  refine pI 2 (some 9) HT_.out ?_
  refine pI 3 (some 10) HT_.out ?_
  refine pK 4 (some 11) HT_.out ?_
  refine pK 5 (some 12) HT_.out ?_
  refine pK 6 (some 13) HT_.out ?_
  refine pK 7 (some 14) HT_.out ?_
  refine pK 8 (some 15) HT_.out ?_
  refine pI 9 (some 16) HT_.out ?_
  refine pI 10 (some 6) HT_.out ?_
  refine done_ (done_of HT_.out (by kernel_rfl)) ?_
  try go_wp2
  go_ret
  exact ⟨rR, bZ HB⟩
def spec_InGroup.f (k : Nat) (a0_0 : Int) (a0_1 : Int) (a0_2 : Bool) : Option (Bool) := (spec_PointOk.f a0_0 a0_1 a0_2).bind fun t575 => (if t575 = true then ((spec_PointTimes.f k 1009 a0_0 a0_1 a0_2).bind fun bt576 => (some bt576.2.2)) else (some false))
set_option maxHeartbeats 8000000 in
set_option maxRecDepth 100000 in
theorem spec_InGroup.calls (k : Nat) (a0_0 : Int) (a0_1 : Int) (a0_2 : Bool) (r : Bool) (w : World) (h : spec_InGroup.f k a0_0 a0_1 a0_2 = some r) :
  Calls Tryz.prog 67 #[.agg #[.int .i64 a0_0, .int .i64 a0_1, .bool a0_2]] w fun e w' => e = .returned (.bool r) ∧ Below w.heap.size w w' := by
 have hu28 := Tryz.underlying28
 have hfd28_0 : ∀ (x0 : Int) (x1 : Int) (x2 : Bool) (w_ : World), (Instr.field 28 (.agg #[.int .i64 x0, .int .i64 x1, .bool x2]) 0).run Tryz.prog w_ = .ok (.int .i64 x0) w_ := fun _ _ _ _ => by kernel_rfl
 have hfd28_1 : ∀ (x0 : Int) (x1 : Int) (x2 : Bool) (w_ : World), (Instr.field 28 (.agg #[.int .i64 x0, .int .i64 x1, .bool x2]) 1).run Tryz.prog w_ = .ok (.int .i64 x1) w_ := fun _ _ _ _ => by kernel_rfl
 have hfd28_2 : ∀ (x0 : Int) (x1 : Int) (x2 : Bool) (w_ : World), (Instr.field 28 (.agg #[.int .i64 x0, .int .i64 x1, .bool x2]) 2).run Tryz.prog w_ = .ok (.bool x2) w_ := fun _ _ _ _ => by kernel_rfl
 have HB := Aside0.mk (Below.refl w.heap.size w)
 have H : ((spec_PointOk.f a0_0 a0_1 a0_2).bind fun t575 => (if t575 = true then ((spec_PointTimes.f k 1009 a0_0 a0_1 a0_2).bind fun bt576 => (some bt576.2.2)) else (some false))) = some r := h
 clear h
 replace H := Option.bind_eq_some_iff.mp H
 obtain ⟨t575, A20, H⟩ := H
 have A2 := Aside0.mk A20
 clear A20
 by_cases c3 : t575 = true
 ·subst c3
  rw [if_pos rfl] at H
  replace H := Option.bind_eq_some_iff.mp H
  obtain ⟨⟨t576, t577, t578⟩, A40, H⟩ := H
  have A4 := Aside0.mk A40
  clear A40
  obtain rfl := Option.some.inj H
  go_enter Tryz.func67, Tryz.ntmps67
  go_wp2_with (first | (refine gB 1 #[.int .i64 a0_0, .int .i64 a0_1, .bool a0_2] 28 ?_; intro gb574 hg w5 BK574 hb; have GW574 := bG HB hg; replace HB := bS HB hb; clear hb hg; obtain ⟨hcz6_0, hcz6_1, hcz6_2, hfz6_0, hfz6_1, hfz6_2⟩ := bK3 (w := w5) BK574) | (refine gC (some 4) Tryz.func115 #[.agg #[.int .i64 a0_0, .int .i64 a0_1, .bool a0_2]] ?_; (with_reducible refine (spec_PointOk.calls a0_0 a0_1 a0_2 true _ A2.out).mono ?_); rintro e w7 ⟨rfl, hb⟩; refine ⟨_, rfl, ?_⟩; replace BK574 := bB BK574 hb; replace HB := bS HB hb; (try clear hb); obtain ⟨hcz8_0, hcz8_1, hcz8_2, hfz8_0, hfz8_1, hfz8_2⟩ := bK3 (w := w7) BK574) | (go_at_call 65; (with_reducible refine (spec_PointTimes.calls k 1009 a0_0 a0_1 a0_2 t576 t577 t578 _ A4.out).mono ?_); rintro e w9 ⟨rfl, hb⟩; replace BK574 := bB BK574 hb; replace HB := bS HB hb; (try clear hb)))
  go_ret
  exact ⟨rR, bZ HB⟩
 ·replace c3 := Bool.eq_false_iff.mpr c3
  subst c3
  rw [if_neg (show ¬ (false = true) by decide)] at H
  obtain rfl := Option.some.inj H
  go_enter Tryz.func67, Tryz.ntmps67
  go_wp2_with (first | (refine gB 1 #[.int .i64 a0_0, .int .i64 a0_1, .bool a0_2] 28 ?_; intro gb574 hg w10 BK574 hb; have GW574 := bG HB hg; replace HB := bS HB hb; clear hb hg; obtain ⟨hcz11_0, hcz11_1, hcz11_2, hfz11_0, hfz11_1, hfz11_2⟩ := bK3 (w := w10) BK574) | (refine gC (some 4) Tryz.func115 #[.agg #[.int .i64 a0_0, .int .i64 a0_1, .bool a0_2]] ?_; (with_reducible refine (spec_PointOk.calls a0_0 a0_1 a0_2 false _ A2.out).mono ?_); rintro e w12 ⟨rfl, hb⟩; refine ⟨_, rfl, ?_⟩; replace BK574 := bB BK574 hb; replace HB := bS HB hb; (try clear hb)))
  go_ret
  exact ⟨rR, bZ HB⟩
def spec_TwoMul.f (a0_0 : Int) (a0_1 : Int) (a1_0 : Int) (a1_1 : Int) : Option (Int × Int) := (spec_FpMul.f a0_0 a1_0).bind fun t593 => ((spec_FpMul.f a0_1 a1_1).bind fun t594 => ((spec_FpSub.f t593 t594).bind fun t595 => ((spec_FpMul.f a0_0 a1_1).bind fun t596 => ((spec_FpMul.f a0_1 a1_0).bind fun t597 => ((spec_FpAdd.f t596 t597).bind fun t598 => (some (t595, t598)))))))
def spec_TwoMul.T1 : Bool × List (List Nat × List Nat) := (true, [([], []), ([0], [0]), ([], []), ([2], [2]), ([1, 3], [1, 3]), ([], []), ([5], [5]), ([], []), ([7], [7]), ([6, 8, 4], [6, 8]), ([4, 9, 9], [4, 9]), ([], []), ([11], [11]), ([], []), ([13], [13]), ([12, 14, 10], [12, 14]), ([], []), ([16], [16]), ([], []), ([18], [18]), ([17, 19, 15], [17, 19]), ([15, 20, 20], [15, 20]), ([10, 21], [10, 21]), ([22, 21, 0, 1, 2, 3, 4, 5, 6, 7, 8, 9, 10, 11, 12, 13, 14, 15, 16, 17, 18, 19, 20, 21, 22], [22])])
def spec_TwoMul.B1 : List Nat := [0, 1, 0, 4, 15, 0, 32, 0, 128, 511, 1023, 0, 2048, 0, 8192, 32767, 0, 65536, 0, 262144, 1048575, 2097151, 4194303, 8388607]
theorem spec_TwoMul.tab1 : rtab .any (opsOf Tryz.f120 1) = spec_TwoMul.T1 := by kernel_rfl
theorem spec_TwoMul.bits1 : waitsOk spec_TwoMul.T1.2 spec_TwoMul.B1 = true := by kernel_rfl
set_option maxHeartbeats 8000000 in
set_option maxRecDepth 100000 in
theorem spec_TwoMul.calls (a0_0 : Int) (a0_1 : Int) (a1_0 : Int) (a1_1 : Int) (r1 : Int) (r2 : Int) (w : World) (h : spec_TwoMul.f a0_0 a0_1 a1_0 a1_1 = some (r1, r2)) :
  Calls Tryz.prog 120 #[.agg #[.int .i64 a0_0, .int .i64 a0_1], .agg #[.int .i64 a1_0, .int .i64 a1_1]] w fun e w' => e = .returned (.agg #[.int .i64 r1, .int .i64 r2]) ∧ Below w.heap.size w w' := by
 have hu75 := Tryz.underlying75
 have HB := Aside0.mk (Below.refl w.heap.size w)
 have H : ((spec_FpMul.f a0_0 a1_0).bind fun t593 => ((spec_FpMul.f a0_1 a1_1).bind fun t594 => ((spec_FpSub.f t593 t594).bind fun t595 => ((spec_FpMul.f a0_0 a1_1).bind fun t596 => ((spec_FpMul.f a0_1 a1_0).bind fun t597 => ((spec_FpAdd.f t596 t597).bind fun t598 => (some (t595, t598)))))))) = some (r1, r2) := h
 clear h
 replace H := Option.bind_eq_some_iff.mp H
 obtain ⟨t593, A30, H⟩ := H
 have A3 := Aside0.mk A30
 clear A30
 replace H := Option.bind_eq_some_iff.mp H
 obtain ⟨t594, A40, H⟩ := H
 have A4 := Aside0.mk A40
 clear A40
 replace H := Option.bind_eq_some_iff.mp H
 obtain ⟨t595, A50, H⟩ := H
 have A5 := Aside0.mk A50
 clear A50
 replace H := Option.bind_eq_some_iff.mp H
 obtain ⟨t596, A60, H⟩ := H
 have A6 := Aside0.mk A60
 clear A60
 replace H := Option.bind_eq_some_iff.mp H
 obtain ⟨t597, A70, H⟩ := H
 have A7 := Aside0.mk A70
 clear A70
 replace H := Option.bind_eq_some_iff.mp H
 obtain ⟨t598, A80, H⟩ := H
 have A8 := Aside0.mk A80
 clear A80
 simp only [Option.some.injEq, Prod.mk.injEq] at H
 obtain ⟨rfl, rfl⟩ := H
 go_enter Tryz.func120, Tryz.ntmps120
 try go_wp2_with (first | (refine gB 2 #[.int .i64 a0_0, .int .i64 a0_1] 75 ?_; intro gb590 hg w9 BK590 hb; have GW590 := bG HB hg; replace HB := bS HB hb; clear hb hg) | (refine gB 3 #[.int .i64 a1_0, .int .i64 a1_1] 75 ?_; intro gb591 hg w10 BK591 hb; have GW591 := bG HB hg; replace HB := bS HB hb; obtain ⟨NB590_591, NB591_590⟩ := bN BK590 hg; replace BK590 := bB BK590 hb; clear hb hg) | (refine gB 4 #[.int .i64 0, .int .i64 0] 75 ?_; intro gb592 hg w11 BK592 hb; have GW592 := bG HB hg; replace HB := bS HB hb; obtain ⟨NB590_592, NB592_590⟩ := bN BK590 hg; replace BK590 := bB BK590 hb; obtain ⟨NB591_592, NB592_591⟩ := bN BK591 hg; replace BK591 := bB BK591 hb; clear hb hg))
 replace BK590 := Aside0.mk (blk_drew BK590.out)
 replace BK591 := Aside0.mk (blk_drew BK591.out)
 replace BK592 := Aside0.mk (blk_drew BK592.out)
 replace HB := Aside0.mk (below_drew1 HB.out)
 refine start_ (n := 24) (S := fun w' => SP2 w' gb590 (.int .i64 a0_0) (.int .i64 a0_1) (SQ2 w' gb591 (.int .i64 a1_0) (.int .i64 a1_1))) (ds := []) #[false, false, false, false, false, false, false, false, false, false, false, false, false, false, false, false, false, false, false, false, false, false, false, false] (by kernel_rfl) rfl rfl (bS2 BK590 (bT2 BK591)) (fun hHeld => ?_); refine with_tabW spec_TwoMul.tab1 spec_TwoMul.bits1 (fun HT_ HW_ => ?_)
 generalize w11.drew = w12 at BK590 BK591 BK592 HB hHeld ⊢
 refine pI 0 (some 5) HT_.out ?_
 refine pI 2 (some 7) HT_.out ?_
 refine pI 5 (some 10) HT_.out ?_
 refine pI 7 (some 12) HT_.out ?_
 refine pI 11 (some 16) HT_.out ?_
 refine pI 13 (some 18) HT_.out ?_
 refine pI 16 (some 21) HT_.out ?_
 refine pI 18 (some 23) HT_.out ?_
 refine tI4 1 (some 6) HT_.out HW_.out hHeld ?_
 refine tI4 3 (some 8) HT_.out HW_.out hHeld ?_
 refine tI4 6 (some 11) HT_.out HW_.out hHeld ?_
 refine tI4 8 (some 13) HT_.out HW_.out hHeld ?_
 refine tI4 12 (some 17) HT_.out HW_.out hHeld ?_
 refine tI4 14 (some 19) HT_.out HW_.out hHeld ?_
 refine tI4 17 (some 22) HT_.out HW_.out hHeld ?_
 refine tI4 19 (some 24) HT_.out HW_.out hHeld ?_
 refine oI 4 (some 9) HT_.out (fun K hK => ?_)
 refine gO Tryz.func112 #[.int .i64 a0_0, .int .i64 a1_0] ?_
 with_reducible refine (spec_FpMul.calls a0_0 a1_0 t593 _ A3.out).mono ?_
 rintro e w' ⟨rfl, ⟨nd, rfl⟩⟩
 refine ⟨_, rfl, ?_⟩
 refine hK.out _ _ (bS2 BK590 (bT2 BK591)) (fun hHeld => ?_)
 clear hK K
 refine nO (some 9) ?_
 refine oI 9 (some 14) HT_.out (fun K hK => ?_)
 refine gO Tryz.func112 #[.int .i64 a0_1, .int .i64 a1_1] ?_
 with_reducible refine (spec_FpMul.calls a0_1 a1_1 t594 _ A4.out).mono ?_
 rintro e w' ⟨rfl, ⟨nd, rfl⟩⟩
 refine ⟨_, rfl, ?_⟩
 refine hK.out _ _ (bS2 BK590 (bT2 BK591)) (fun hHeld => ?_)
 clear hK K
 refine nO (some 14) ?_
 refine oI 10 (some 15) HT_.out (fun K hK => ?_)
 refine gO Tryz.func113 #[.int .i64 t593, .int .i64 t594] ?_
 with_reducible refine (spec_FpSub.calls t593 t594 t595 _ A5.out).mono ?_
 rintro e w' ⟨rfl, ⟨nd, rfl⟩⟩
 refine ⟨_, rfl, ?_⟩
 refine hK.out _ _ (bS2 BK590 (bT2 BK591)) (fun hHeld => ?_)
 clear hK K
 refine nO (some 15) ?_
 refine oI 15 (some 20) HT_.out (fun K hK => ?_)
 refine gO Tryz.func112 #[.int .i64 a0_0, .int .i64 a1_1] ?_
 with_reducible refine (spec_FpMul.calls a0_0 a1_1 t596 _ A6.out).mono ?_
 rintro e w' ⟨rfl, ⟨nd, rfl⟩⟩
 refine ⟨_, rfl, ?_⟩
 refine hK.out _ _ (bS2 BK590 (bT2 BK591)) (fun hHeld => ?_)
 clear hK K
 refine nO (some 20) ?_
 refine oI 20 (some 25) HT_.out (fun K hK => ?_)
 refine gO Tryz.func112 #[.int .i64 a0_1, .int .i64 a1_0] ?_
 with_reducible refine (spec_FpMul.calls a0_1 a1_0 t597 _ A7.out).mono ?_
 rintro e w' ⟨rfl, ⟨nd, rfl⟩⟩
 refine ⟨_, rfl, ?_⟩
 refine hK.out _ _ (bS2 BK590 (bT2 BK591)) (fun hHeld => ?_)
 clear hK K
 refine nO (some 25) ?_
 refine oI 21 (some 26) HT_.out (fun K hK => ?_)
 refine gO Tryz.func114 #[.int .i64 t596, .int .i64 t597] ?_
 with_reducible refine (spec_FpAdd.calls t596 t597 t598 _ A8.out).mono ?_
 rintro e w' ⟨rfl, ⟨nd, rfl⟩⟩
 refine ⟨_, rfl, ?_⟩
 refine hK.out _ _ (bS2 BK590 (bT2 BK591)) (fun hHeld => ?_)
 clear hK K
 refine nO (some 26) ?_
 refine pI 22 (some 27) HT_.out ?_
 refine oI 23 (none) HT_.out (fun K hK => ?_)
 have hs13 : w12.cell? ⟨gb592, 0, none⟩ = some (.int .i64 0) := bc BK592 0
 have hfs13 := blk_frozen BK592.out 0
 have hns13_0 := NB590_592.out
 have hns13_1 := NB591_592.out
 have hms13_0 := NB592_590.out
 have hms13_1 := NB592_591.out
 have hs14 : w12.cell? ⟨gb592, 1, none⟩ = some (.int .i64 0) := bc BK592 1
 have hfs14 := blk_frozen BK592.out 1
 have hns14_0 := NB590_592.out
 have hns14_1 := NB591_592.out
 have hms14_0 := NB592_590.out
 have hms14_1 := NB592_591.out
 refine skip_ (w1 := ?_) (by rfl) rfl ?_ ?_
 rotate_left
 ·go_simp
  rfl
 refine hK.out _ _ ⟨((cell_far (p := ⟨gb592, _, none⟩) NB590_592.out _).trans (((cell_far (p := ⟨gb592, _, none⟩) NB590_592.out _).trans (hHeld.1)))), ((cell_far (p := ⟨gb592, _, none⟩) NB590_592.out _).trans (((cell_far (p := ⟨gb592, _, none⟩) NB590_592.out _).trans (hHeld.2.1)))), ((cell_far (p := ⟨gb592, _, none⟩) NB591_592.out _).trans (((cell_far (p := ⟨gb592, _, none⟩) NB591_592.out _).trans (hHeld.2.2.1)))), ((cell_far (p := ⟨gb592, _, none⟩) NB591_592.out _).trans (((cell_far (p := ⟨gb592, _, none⟩) NB591_592.out _).trans (hHeld.2.2.2))))⟩ (fun hHeld => ?_)
 clear hK K
 refine done_ (done_of HT_.out (by kernel_rfl)) ?_
 try go_wp2
 refine rC gb592 75 #[.int .i64 t595, .int .i64 t598] (bU BK592) Tryz.underlying75 ?_
 exact ⟨rR, bZ HB⟩
def spec_PointAdd.j0 : Nat → Bool → Int → Int → Bool → Int → Int → Bool → Option (Int × Int × Bool)
 | 0, _, _, _, _, _, _, _ => none
 | k + 1, x12, x580000, x580001, x580002, x581000, x581001, x581002 => if x12 = true then ((spec_l07Zero.f).bind fun bt584 => (some (bt584.1, bt584.2.1, bt584.2.2))) else ((spec_l07Add.f k x580000 x580001 x580002 x581000 x581001 x581002).bind fun bt587 => (some (bt587.1, bt587.2.1, bt587.2.2)))
def spec_PointAdd.f (k : Nat) (a0_0 : Int) (a0_1 : Int) (a0_2 : Bool) (a1_0 : Int) (a1_1 : Int) (a1_2 : Bool) : Option (Int × Int × Bool) := (spec_PointOk.f a0_0 a0_1 a0_2).bind fun t582 => (if t582 = true then ((spec_PointOk.f a1_0 a1_1 a1_2).bind fun t583 => (spec_PointAdd.j0 k (!t583) a0_0 a0_1 a0_2 a1_0 a1_1 a1_2)) else (spec_PointAdd.j0 k true a0_0 a0_1 a0_2 a1_0 a1_1 a1_2))
set_option maxHeartbeats 8000000 in
set_option maxRecDepth 100000 in
theorem spec_PointAdd.calls (k : Nat) (a0_0 : Int) (a0_1 : Int) (a0_2 : Bool) (a1_0 : Int) (a1_1 : Int) (a1_2 : Bool) (r1 : Int) (r2 : Int) (r3 : Bool) (w : World) (h : spec_PointAdd.f k a0_0 a0_1 a0_2 a1_0 a1_1 a1_2 = some (r1, r2, r3)) :
  Calls Tryz.prog 92 #[.agg #[.int .i64 a0_0, .int .i64 a0_1, .bool a0_2], .agg #[.int .i64 a1_0, .int .i64 a1_1, .bool a1_2]] w fun e w' => e = .returned (.agg #[.int .i64 r1, .int .i64 r2, .bool r3]) ∧ Below w.heap.size w w' := by
 have hu28 := Tryz.underlying28
 have HB := Aside0.mk (Below.refl w.heap.size w)
 have H : ((spec_PointOk.f a0_0 a0_1 a0_2).bind fun t582 => (if t582 = true then ((spec_PointOk.f a1_0 a1_1 a1_2).bind fun t583 => (spec_PointAdd.j0 k (!t583) a0_0 a0_1 a0_2 a1_0 a1_1 a1_2)) else (spec_PointAdd.j0 k true a0_0 a0_1 a0_2 a1_0 a1_1 a1_2))) = some (r1, r2, r3) := h
 clear h
 have HC3 := Aside0.mk H
 clear H
 go_enter Tryz.func92, Tryz.ntmps92
 go_upto_region 1 with (first | (refine gB 2 #[.int .i64 a0_0, .int .i64 a0_1, .bool a0_2] 28 ?_; intro gb579 hg w4 BK579 hb; have GW579 := bG HB hg; replace HB := bS HB hb; clear hb hg) | (refine gB 3 #[.int .i64 a1_0, .int .i64 a1_1, .bool a1_2] 28 ?_; intro gb580 hg w5 BK580 hb; have GW580 := bG HB hg; replace HB := bS HB hb; obtain ⟨NB579_580, NB580_579⟩ := bN BK579 hg; replace BK579 := bB BK579 hb; clear hb hg) | (refine gB 4 #[.int .i64 0, .int .i64 0, .bool false] 28 ?_; intro gb581 hg w6 BK581 hb; have GW581 := bG HB hg; replace HB := bS HB hb; obtain ⟨NB579_581, NB581_579⟩ := bN BK579 hg; replace BK579 := bB BK579 hb; obtain ⟨NB580_581, NB581_580⟩ := bN BK580 hg; replace BK580 := bB BK580 hb; clear hb hg))
 (try simp only [Act.put, List.setIfInBounds_toArray, List.set_cons_zero, List.set_cons_succ])
 go_cut [12] (fun v12 wc => ∃ (kq : Nat) (x12_2 : Bool), v12 = .bool x12_2 ∧ Aside0 (spec_PointAdd.j0 kq x12_2 a0_0 a0_1 a0_2 a1_0 a1_1 a1_2 = some (r1, r2, r3)) ∧ Aside0 (kq ≤ k) ∧ Aside0 (wc.heap[gb579]? = some (.cells #[.int .i64 a0_0, .int .i64 a0_1, .bool a0_2] 28 (0, 0))) ∧ Aside0 (wc.heap[gb580]? = some (.cells #[.int .i64 a1_0, .int .i64 a1_1, .bool a1_2] 28 (0, 0))) ∧ Aside0 (wc.heap[gb581]? = some (.cells #[.int .i64 0, .int .i64 0, .bool false] 28 (0, 0))) ∧ Aside0 (Below w.heap.size w wc))
 case first =>
  have H := HC3.out
  clear HC3
  replace H := Option.bind_eq_some_iff.mp H
  obtain ⟨t582, A70, H⟩ := H
  have A7 := Aside0.mk A70
  clear A70
  by_cases c8 : t582 = true
  ·subst c8
   rw [if_pos rfl] at H
   replace H := Option.bind_eq_some_iff.mp H
   obtain ⟨t583, A90, H⟩ := H
   have A9 := Aside0.mk A90
   clear A90
   have H' := Aside0.mk H
   clear H
   obtain ⟨hnb10, hnc10⟩ := nB NB579_580
   obtain ⟨hnb11, hnc11⟩ := nB NB579_581
   obtain ⟨hcz12_0, hcz12_1, hcz12_2, hfz12_0, hfz12_1, hfz12_2⟩ := bK3 (w := w6) BK579
   go_wp2_with (first | (refine gC (some 6) Tryz.func115 #[.agg #[.int .i64 a0_0, .int .i64 a0_1, .bool a0_2]] ?_; (with_reducible refine (spec_PointOk.calls a0_0 a0_1 a0_2 true _ A7.out).mono ?_); rintro e w13 ⟨rfl, hb⟩; refine ⟨_, rfl, ?_⟩; replace BK579 := bB BK579 hb; replace BK580 := bB BK580 hb; replace BK581 := bB BK581 hb; replace HB := bS HB hb; (try clear hb); obtain ⟨hnb14, hnc14⟩ := nB NB580_581; obtain ⟨hcz15_0, hcz15_1, hcz15_2, hfz15_0, hfz15_1, hfz15_2⟩ := bK3 (w := w13) BK580) | (go_at_call 115; (with_reducible refine (spec_PointOk.calls a1_0 a1_1 a1_2 t583 _ A9.out).mono ?_); rintro e w16 ⟨rfl, hb⟩; replace BK579 := bB BK579 hb; replace BK580 := bB BK580 hb; replace BK581 := bB BK581 hb; replace HB := bS HB hb; (try clear hb)))
   go_meet
   case rel => exact ⟨_, (!t583), rS, H', ⟨by first | omega | exact Nat.le_refl _⟩, ⟨bP BK579⟩, ⟨bP BK580⟩, ⟨bP BK581⟩, ⟨bZ HB⟩⟩
  ·replace c8 := Bool.eq_false_iff.mpr c8
   subst c8
   rw [if_neg (show ¬ (false = true) by decide)] at H
   have H' := Aside0.mk H
   clear H
   obtain ⟨hnb17, hnc17⟩ := nB NB579_580
   obtain ⟨hnb18, hnc18⟩ := nB NB579_581
   obtain ⟨hcz19_0, hcz19_1, hcz19_2, hfz19_0, hfz19_1, hfz19_2⟩ := bK3 (w := w6) BK579
   go_wp2_with (first | (refine gC (some 6) Tryz.func115 #[.agg #[.int .i64 a0_0, .int .i64 a0_1, .bool a0_2]] ?_; (with_reducible refine (spec_PointOk.calls a0_0 a0_1 a0_2 false _ A7.out).mono ?_); rintro e w20 ⟨rfl, hb⟩; refine ⟨_, rfl, ?_⟩; replace BK579 := bB BK579 hb; replace BK580 := bB BK580 hb; replace BK581 := bB BK581 hb; replace HB := bS HB hb; (try clear hb)))
   go_meet
   case rel => exact ⟨_, (true), rS, H', ⟨by first | omega | exact Nat.le_refl _⟩, ⟨bP BK579⟩, ⟨bP BK580⟩, ⟨bP BK581⟩, ⟨bZ HB⟩⟩
 case rest =>
  clear HC3
  try clear c1
  try clear p2
  try clear c8
  try clear c9
  try clear c10
  try clear c11
  try clear c14
  try clear c17
  try clear c18
  try clear hcz12_0
  try clear hcz12_1
  try clear hcz12_2
  try clear hcz15_0
  try clear hcz15_1
  try clear hcz15_2
  try clear hcz19_0
  try clear hcz19_1
  try clear hcz19_2
  try clear hfz12_0
  try clear hfz12_1
  try clear hfz12_2
  try clear hfz15_0
  try clear hfz15_1
  try clear hfz15_2
  try clear hfz19_0
  try clear hfz19_1
  try clear hfz19_2
  obtain ⟨kq, x12_2, rfl, HA, HJ2, BK579, BK580, BK581, HB⟩ := hcut
  cases kq with
  | zero => exact absurd HA.out (by simp [spec_PointAdd.j0])
  | succ kj2 =>
   have H := HA.out
   clear HA
   simp only [spec_PointAdd.j0] at H
   by_cases c21 : x12_2 = true
   ·subst c21
    rw [if_pos rfl] at H
    replace H := Option.bind_eq_some_iff.mp H
    obtain ⟨⟨t584, t585, t586⟩, A220, H⟩ := H
    have A22 := Aside0.mk A220
    clear A220
    simp only [Option.some.injEq, Prod.mk.injEq] at H
    obtain ⟨rfl, rfl, rfl⟩ := H
    go_wp2_with (first | (refine gC (some 13) Tryz.func81 #[] ?_; (with_reducible refine (spec_l07Zero.calls  t584 t585 t586 _ A22.out).mono ?_); rintro e w23 ⟨rfl, hb⟩; refine ⟨_, rfl, ?_⟩; replace BK579 := bB BK579 hb; replace BK580 := bB BK580 hb; replace BK581 := bB BK581 hb; replace HB := bS HB hb; (try clear hb); obtain ⟨hnb24, hnc24⟩ := nB NB581_579; obtain ⟨hnb25, hnc25⟩ := nB NB581_580; obtain ⟨hcz26_0, hcz26_1, hcz26_2, hfz26_0, hfz26_1, hfz26_2⟩ := bK3 (w := w23) BK581))
    refine rC gb581 28 #[.int .i64 t584, .int .i64 t585, .bool t586] (bU BK581) Tryz.underlying28 ?_
    exact ⟨rR, bZ HB⟩
   ·replace c21 := Bool.eq_false_iff.mpr c21
    subst c21
    rw [if_neg (show ¬ (false = true) by decide)] at H
    replace H := Option.bind_eq_some_iff.mp H
    obtain ⟨⟨t587, t588, t589⟩, A270, H⟩ := H
    have A27 := Aside0.mk A270
    clear A270
    simp only [Option.some.injEq, Prod.mk.injEq] at H
    obtain ⟨rfl, rfl, rfl⟩ := H
    obtain ⟨hnb28, hnc28⟩ := nB NB579_580
    obtain ⟨hnb29, hnc29⟩ := nB NB579_581
    obtain ⟨hcz30_0, hcz30_1, hcz30_2, hfz30_0, hfz30_1, hfz30_2⟩ := bK3 (w := wc) BK579
    obtain ⟨hnb31, hnc31⟩ := nB NB580_581
    obtain ⟨hcz32_0, hcz32_1, hcz32_2, hfz32_0, hfz32_1, hfz32_2⟩ := bK3 (w := wc) BK580
    go_wp2_with (first | (refine gC (some 16) Tryz.func117 #[.agg #[.int .i64 a0_0, .int .i64 a0_1, .bool a0_2], .agg #[.int .i64 a1_0, .int .i64 a1_1, .bool a1_2]] ?_; (with_reducible refine (spec_l07Add.calls kj2 a0_0 a0_1 a0_2 a1_0 a1_1 a1_2 t587 t588 t589 _ A27.out).mono ?_); rintro e w33 ⟨rfl, hb⟩; refine ⟨_, rfl, ?_⟩; replace BK579 := bB BK579 hb; replace BK580 := bB BK580 hb; replace BK581 := bB BK581 hb; replace HB := bS HB hb; (try clear hb); obtain ⟨hcz34_0, hcz34_1, hcz34_2, hfz34_0, hfz34_1, hfz34_2⟩ := bK3 (w := w33) BK581))
    refine rC gb581 28 #[.int .i64 t587, .int .i64 t588, .bool t589] (bU BK581) Tryz.underlying28 ?_
    exact ⟨rR, bZ HB⟩
def spec_PairLine.j0 : Nat → Bool → Int → Int → Bool → Int → Int → Bool → Int → Int → Bool → Int → Int → Option (Int × Int)
 | 0, _, _, _, _, _, _, _, _, _, _, _, _ => none
 | k + 1, x36, x600000, x600001, x600002, x601000, x601001, x601002, x602000, x602001, x602002, x604000, x604001 => if x36 = true then (some (x604000, x604001)) else ((spec_l07Slope.f k x600000 x600001 x600002 x601000 x601001 x601002).bind fun bt607 => (if bt607.2 = true then ((spec_FpSub.f 0 x602000).bind fun t609 => ((spec_FpSub.f t609 x600000).bind fun t610 => ((spec_FpSub.f 0 x600001).bind fun t611 => ((spec_FpMul.f bt607.1 t610).bind fun t612 => ((spec_FpSub.f t611 t612).bind fun t613 => (some (t613, x602001))))))) else (some (x604000, x604001))))
def spec_PairLine.f (k : Nat) (a0_0 : Int) (a0_1 : Int) (a0_2 : Bool) (a1_0 : Int) (a1_1 : Int) (a1_2 : Bool) (a2_0 : Int) (a2_1 : Int) (a2_2 : Bool) : Option (Int × Int) := if a0_2 = true then (spec_PairLine.j0 k true a0_0 a0_1 a0_2 a1_0 a1_1 a1_2 a2_0 a2_1 a2_2 1 0) else (if a1_2 = true then (spec_PairLine.j0 k true a0_0 a0_1 a0_2 a1_0 a1_1 a1_2 a2_0 a2_1 a2_2 1 0) else (if a2_2 = true then (spec_PairLine.j0 k true a0_0 a0_1 a0_2 a1_0 a1_1 a1_2 a2_0 a2_1 a2_2 1 0) else ((spec_PointOk.f a0_0 a0_1 a0_2).bind fun t604 => (if t604 = true then ((spec_PointOk.f a1_0 a1_1 a1_2).bind fun t605 => (if t605 = true then ((spec_PointOk.f a2_0 a2_1 a2_2).bind fun t606 => (spec_PairLine.j0 k (!t606) a0_0 a0_1 a0_2 a1_0 a1_1 a1_2 a2_0 a2_1 a2_2 1 0)) else (spec_PairLine.j0 k true a0_0 a0_1 a0_2 a1_0 a1_1 a1_2 a2_0 a2_1 a2_2 1 0))) else (spec_PairLine.j0 k true a0_0 a0_1 a0_2 a1_0 a1_1 a1_2 a2_0 a2_1 a2_2 1 0)))))
def spec_PairLine.T8 : Bool × List (List Nat × List Nat) := (true, [([], []), ([0], [0]), ([1], [1]), ([], []), ([], []), ([3, 4, 2], [3, 4]), ([2, 5, 5], [2, 5]), ([], []), ([7], [7]), ([6, 8], [6, 8]), ([9, 6, 0, 1, 2, 3, 4, 5, 6, 7, 8, 9], [9])])
def spec_PairLine.B8 : List Nat := [0, 1, 3, 0, 0, 31, 63, 0, 128, 511, 1023]
theorem spec_PairLine.tab8 : rtab .any (opsOf Tryz.f141 8) = spec_PairLine.T8 := by kernel_rfl
theorem spec_PairLine.bits8 : waitsOk spec_PairLine.T8.2 spec_PairLine.B8 = true := by kernel_rfl
set_option maxHeartbeats 8000000 in
set_option maxRecDepth 100000 in
theorem spec_PairLine.calls (k : Nat) (a0_0 : Int) (a0_1 : Int) (a0_2 : Bool) (a1_0 : Int) (a1_1 : Int) (a1_2 : Bool) (a2_0 : Int) (a2_1 : Int) (a2_2 : Bool) (r1 : Int) (r2 : Int) (w : World) (h : spec_PairLine.f k a0_0 a0_1 a0_2 a1_0 a1_1 a1_2 a2_0 a2_1 a2_2 = some (r1, r2)) :
  Calls Tryz.prog 141 #[.agg #[.int .i64 a0_0, .int .i64 a0_1, .bool a0_2], .agg #[.int .i64 a1_0, .int .i64 a1_1, .bool a1_2], .agg #[.int .i64 a2_0, .int .i64 a2_1, .bool a2_2]] w fun e w' => e = .returned (.agg #[.int .i64 r1, .int .i64 r2]) ∧ Below w.heap.size w w' := by
 have hu28 := Tryz.underlying28
 have hu75 := Tryz.underlying75
 have HB := Aside0.mk (Below.refl w.heap.size w)
 have H : (if a0_2 = true then (spec_PairLine.j0 k true a0_0 a0_1 a0_2 a1_0 a1_1 a1_2 a2_0 a2_1 a2_2 1 0) else (if a1_2 = true then (spec_PairLine.j0 k true a0_0 a0_1 a0_2 a1_0 a1_1 a1_2 a2_0 a2_1 a2_2 1 0) else (if a2_2 = true then (spec_PairLine.j0 k true a0_0 a0_1 a0_2 a1_0 a1_1 a1_2 a2_0 a2_1 a2_2 1 0) else ((spec_PointOk.f a0_0 a0_1 a0_2).bind fun t604 => (if t604 = true then ((spec_PointOk.f a1_0 a1_1 a1_2).bind fun t605 => (if t605 = true then ((spec_PointOk.f a2_0 a2_1 a2_2).bind fun t606 => (spec_PairLine.j0 k (!t606) a0_0 a0_1 a0_2 a1_0 a1_1 a1_2 a2_0 a2_1 a2_2 1 0)) else (spec_PairLine.j0 k true a0_0 a0_1 a0_2 a1_0 a1_1 a1_2 a2_0 a2_1 a2_2 1 0))) else (spec_PairLine.j0 k true a0_0 a0_1 a0_2 a1_0 a1_1 a1_2 a2_0 a2_1 a2_2 1 0)))))) = some (r1, r2) := h
 clear h
 have HC4 := Aside0.mk H
 clear H
 go_enter Tryz.func141, Tryz.ntmps141
 go_upto_region 2 with (first | (refine gB 3 #[.int .i64 a0_0, .int .i64 a0_1, .bool a0_2] 28 ?_; intro gb599 hg w5 BK599 hb; have GW599 := bG HB hg; replace HB := bS HB hb; clear hb hg) | (refine gB 4 #[.int .i64 a1_0, .int .i64 a1_1, .bool a1_2] 28 ?_; intro gb600 hg w6 BK600 hb; have GW600 := bG HB hg; replace HB := bS HB hb; obtain ⟨NB599_600, NB600_599⟩ := bN BK599 hg; replace BK599 := bB BK599 hb; clear hb hg) | (refine gB 5 #[.int .i64 a2_0, .int .i64 a2_1, .bool a2_2] 28 ?_; intro gb601 hg w7 BK601 hb; have GW601 := bG HB hg; replace HB := bS HB hb; obtain ⟨NB599_601, NB601_599⟩ := bN BK599 hg; replace BK599 := bB BK599 hb; obtain ⟨NB600_601, NB601_600⟩ := bN BK600 hg; replace BK600 := bB BK600 hb; clear hb hg) | (refine gB 6 #[.int .i64 0, .int .i64 0] 75 ?_; intro gb602 hg w8 BK602 hb; have GW602 := bG HB hg; replace HB := bS HB hb; obtain ⟨NB599_602, NB602_599⟩ := bN BK599 hg; replace BK599 := bB BK599 hb; obtain ⟨NB600_602, NB602_600⟩ := bN BK600 hg; replace BK600 := bB BK600 hb; obtain ⟨NB601_602, NB602_601⟩ := bN BK601 hg; replace BK601 := bB BK601 hb; clear hb hg) | (refine gB 7 #[.int .i64 0, .int .i64 0] 75 ?_; intro gb603 hg w9 BK603 hb; have GW603 := bG HB hg; replace HB := bS HB hb; obtain ⟨NB599_603, NB603_599⟩ := bN BK599 hg; replace BK599 := bB BK599 hb; obtain ⟨NB600_603, NB603_600⟩ := bN BK600 hg; replace BK600 := bB BK600 hb; obtain ⟨NB601_603, NB603_601⟩ := bN BK601 hg; replace BK601 := bB BK601 hb; obtain ⟨NB602_603, NB603_602⟩ := bN BK602 hg; replace BK602 := bB BK602 hb; clear hb hg; obtain ⟨hnb10, hnc10⟩ := nB NB603_599; obtain ⟨hnb11, hnc11⟩ := nB NB603_600; obtain ⟨hnb12, hnc12⟩ := nB NB603_601; obtain ⟨hnb13, hnc13⟩ := nB NB603_602; obtain ⟨hcz14_0, hcz14_1, hfz14_0, hfz14_1⟩ := bK2 (w := w9) BK603))
 (try simp only [Act.put, List.setIfInBounds_toArray, List.set_cons_zero, List.set_cons_succ])
 go_cut [36] (fun v36 wc => ∃ (kq : Nat) (x36_3 : Bool), v36 = .bool x36_3 ∧ Aside0 (spec_PairLine.j0 kq x36_3 a0_0 a0_1 a0_2 a1_0 a1_1 a1_2 a2_0 a2_1 a2_2 1 0 = some (r1, r2)) ∧ Aside0 (kq ≤ k) ∧ Aside0 (wc.heap[gb599]? = some (.cells #[.int .i64 a0_0, .int .i64 a0_1, .bool a0_2] 28 (0, 0))) ∧ Aside0 (wc.heap[gb600]? = some (.cells #[.int .i64 a1_0, .int .i64 a1_1, .bool a1_2] 28 (0, 0))) ∧ Aside0 (wc.heap[gb601]? = some (.cells #[.int .i64 a2_0, .int .i64 a2_1, .bool a2_2] 28 (0, 0))) ∧ Aside0 (wc.heap[gb602]? = some (.cells #[.int .i64 0, .int .i64 0] 75 (0, 0))) ∧ Aside0 (wc.heap[gb603]? = some (.cells #[.int .i64 1, .int .i64 0] 75 (0, 0))) ∧ Aside0 (Below w.heap.size w wc))
 case first =>
  have H := HC4.out
  clear HC4
  by_cases c15 : a0_2 = true
  ·subst c15
   rw [if_pos rfl] at H
   have H' := Aside0.mk H
   clear H
   obtain ⟨hnb16, hnc16⟩ := nB NB599_600
   obtain ⟨hnb17, hnc17⟩ := nB NB599_601
   obtain ⟨hnb18, hnc18⟩ := nB NB599_602
   obtain ⟨hnb19, hnc19⟩ := nB NB599_603
   obtain ⟨hcz20_0, hcz20_1, hcz20_2, hfz20_0, hfz20_1, hfz20_2⟩ := bK3 (w := w9) BK599
   go_wp2
   go_meet
   case rel => exact ⟨_, (true), rS, H', ⟨by first | omega | exact Nat.le_refl _⟩, ⟨bP BK599⟩, ⟨bP BK600⟩, ⟨bP BK601⟩, ⟨bP BK602⟩, ⟨bU BK603⟩, ⟨bZ HB⟩⟩
  ·replace c15 := Bool.eq_false_iff.mpr c15
   subst c15
   rw [if_neg (show ¬ (false = true) by decide)] at H
   by_cases c21 : a1_2 = true
   ·subst c21
    rw [if_pos rfl] at H
    have H' := Aside0.mk H
    clear H
    obtain ⟨hnb22, hnc22⟩ := nB NB599_600
    obtain ⟨hnb23, hnc23⟩ := nB NB599_601
    obtain ⟨hnb24, hnc24⟩ := nB NB599_602
    obtain ⟨hnb25, hnc25⟩ := nB NB599_603
    obtain ⟨hcz26_0, hcz26_1, hcz26_2, hfz26_0, hfz26_1, hfz26_2⟩ := bK3 (w := w9) BK599
    obtain ⟨hnb27, hnc27⟩ := nB NB600_601
    obtain ⟨hnb28, hnc28⟩ := nB NB600_602
    obtain ⟨hnb29, hnc29⟩ := nB NB600_603
    obtain ⟨hcz30_0, hcz30_1, hcz30_2, hfz30_0, hfz30_1, hfz30_2⟩ := bK3 (w := w9) BK600
    go_wp2
    go_meet
    case rel => exact ⟨_, (true), rS, H', ⟨by first | omega | exact Nat.le_refl _⟩, ⟨bP BK599⟩, ⟨bP BK600⟩, ⟨bP BK601⟩, ⟨bP BK602⟩, ⟨bU BK603⟩, ⟨bZ HB⟩⟩
   ·replace c21 := Bool.eq_false_iff.mpr c21
    subst c21
    rw [if_neg (show ¬ (false = true) by decide)] at H
    by_cases c31 : a2_2 = true
    ·subst c31
     rw [if_pos rfl] at H
     have H' := Aside0.mk H
     clear H
     obtain ⟨hnb32, hnc32⟩ := nB NB599_600
     obtain ⟨hnb33, hnc33⟩ := nB NB599_601
     obtain ⟨hnb34, hnc34⟩ := nB NB599_602
     obtain ⟨hnb35, hnc35⟩ := nB NB599_603
     obtain ⟨hcz36_0, hcz36_1, hcz36_2, hfz36_0, hfz36_1, hfz36_2⟩ := bK3 (w := w9) BK599
     obtain ⟨hnb37, hnc37⟩ := nB NB600_601
     obtain ⟨hnb38, hnc38⟩ := nB NB600_602
     obtain ⟨hnb39, hnc39⟩ := nB NB600_603
     obtain ⟨hcz40_0, hcz40_1, hcz40_2, hfz40_0, hfz40_1, hfz40_2⟩ := bK3 (w := w9) BK600
     obtain ⟨hnb41, hnc41⟩ := nB NB601_602
     obtain ⟨hnb42, hnc42⟩ := nB NB601_603
     obtain ⟨hcz43_0, hcz43_1, hcz43_2, hfz43_0, hfz43_1, hfz43_2⟩ := bK3 (w := w9) BK601
     go_wp2
     go_meet
     case rel => exact ⟨_, (true), rS, H', ⟨by first | omega | exact Nat.le_refl _⟩, ⟨bP BK599⟩, ⟨bP BK600⟩, ⟨bP BK601⟩, ⟨bP BK602⟩, ⟨bU BK603⟩, ⟨bZ HB⟩⟩
    ·replace c31 := Bool.eq_false_iff.mpr c31
     subst c31
     rw [if_neg (show ¬ (false = true) by decide)] at H
     replace H := Option.bind_eq_some_iff.mp H
     obtain ⟨t604, A440, H⟩ := H
     have A44 := Aside0.mk A440
     clear A440
     by_cases c45 : t604 = true
     ·subst c45
      rw [if_pos rfl] at H
      replace H := Option.bind_eq_some_iff.mp H
      obtain ⟨t605, A460, H⟩ := H
      have A46 := Aside0.mk A460
      clear A460
      by_cases c47 : t605 = true
      ·subst c47
       rw [if_pos rfl] at H
       replace H := Option.bind_eq_some_iff.mp H
       obtain ⟨t606, A480, H⟩ := H
       have A48 := Aside0.mk A480
       clear A480
       have H' := Aside0.mk H
       clear H
       obtain ⟨hnb49, hnc49⟩ := nB NB599_600
       obtain ⟨hnb50, hnc50⟩ := nB NB599_601
       obtain ⟨hnb51, hnc51⟩ := nB NB599_602
       obtain ⟨hnb52, hnc52⟩ := nB NB599_603
       obtain ⟨hcz53_0, hcz53_1, hcz53_2, hfz53_0, hfz53_1, hfz53_2⟩ := bK3 (w := w9) BK599
       obtain ⟨hnb54, hnc54⟩ := nB NB600_601
       obtain ⟨hnb55, hnc55⟩ := nB NB600_602
       obtain ⟨hnb56, hnc56⟩ := nB NB600_603
       obtain ⟨hcz57_0, hcz57_1, hcz57_2, hfz57_0, hfz57_1, hfz57_2⟩ := bK3 (w := w9) BK600
       obtain ⟨hnb58, hnc58⟩ := nB NB601_602
       obtain ⟨hnb59, hnc59⟩ := nB NB601_603
       obtain ⟨hcz60_0, hcz60_1, hcz60_2, hfz60_0, hfz60_1, hfz60_2⟩ := bK3 (w := w9) BK601
       go_wp2_with (first | (go_at_call 115; (with_reducible refine (spec_PointOk.calls a0_0 a0_1 false true _ A44.out).mono ?_); rintro e w61 ⟨rfl, hb⟩; replace BK599 := bB BK599 hb; replace BK600 := bB BK600 hb; replace BK601 := bB BK601 hb; replace BK602 := bB BK602 hb; replace BK603 := bV 75 #[.int .i64 1, .int .i64 0] BK603 hb; replace HB := bS HB hb; (try clear hb); obtain ⟨hcz62_0, hcz62_1, hcz62_2, hfz62_0, hfz62_1, hfz62_2⟩ := bK3 (w := w61) BK600) | (go_at_call 115; (with_reducible refine (spec_PointOk.calls a1_0 a1_1 false true _ A46.out).mono ?_); rintro e w63 ⟨rfl, hb⟩; replace BK599 := bB BK599 hb; replace BK600 := bB BK600 hb; replace BK601 := bB BK601 hb; replace BK602 := bB BK602 hb; replace BK603 := bB BK603 hb; replace HB := bS HB hb; (try clear hb); obtain ⟨hcz64_0, hcz64_1, hcz64_2, hfz64_0, hfz64_1, hfz64_2⟩ := bK3 (w := w63) BK601) | (go_at_call 115; (with_reducible refine (spec_PointOk.calls a2_0 a2_1 false t606 _ A48.out).mono ?_); rintro e w65 ⟨rfl, hb⟩; replace BK599 := bB BK599 hb; replace BK600 := bB BK600 hb; replace BK601 := bB BK601 hb; replace BK602 := bB BK602 hb; replace BK603 := bB BK603 hb; replace HB := bS HB hb; (try clear hb)))
       go_meet
       case rel => exact ⟨_, (!t606), rS, H', ⟨by first | omega | exact Nat.le_refl _⟩, ⟨bP BK599⟩, ⟨bP BK600⟩, ⟨bP BK601⟩, ⟨bP BK602⟩, ⟨bP BK603⟩, ⟨bZ HB⟩⟩
      ·replace c47 := Bool.eq_false_iff.mpr c47
       subst c47
       rw [if_neg (show ¬ (false = true) by decide)] at H
       have H' := Aside0.mk H
       clear H
       obtain ⟨hnb66, hnc66⟩ := nB NB599_600
       obtain ⟨hnb67, hnc67⟩ := nB NB599_601
       obtain ⟨hnb68, hnc68⟩ := nB NB599_602
       obtain ⟨hnb69, hnc69⟩ := nB NB599_603
       obtain ⟨hcz70_0, hcz70_1, hcz70_2, hfz70_0, hfz70_1, hfz70_2⟩ := bK3 (w := w9) BK599
       obtain ⟨hnb71, hnc71⟩ := nB NB600_601
       obtain ⟨hnb72, hnc72⟩ := nB NB600_602
       obtain ⟨hnb73, hnc73⟩ := nB NB600_603
       obtain ⟨hcz74_0, hcz74_1, hcz74_2, hfz74_0, hfz74_1, hfz74_2⟩ := bK3 (w := w9) BK600
       obtain ⟨hnb75, hnc75⟩ := nB NB601_602
       obtain ⟨hnb76, hnc76⟩ := nB NB601_603
       obtain ⟨hcz77_0, hcz77_1, hcz77_2, hfz77_0, hfz77_1, hfz77_2⟩ := bK3 (w := w9) BK601
       go_wp2_with (first | (go_at_call 115; (with_reducible refine (spec_PointOk.calls a0_0 a0_1 false true _ A44.out).mono ?_); rintro e w78 ⟨rfl, hb⟩; replace BK599 := bB BK599 hb; replace BK600 := bB BK600 hb; replace BK601 := bB BK601 hb; replace BK602 := bB BK602 hb; replace BK603 := bV 75 #[.int .i64 1, .int .i64 0] BK603 hb; replace HB := bS HB hb; (try clear hb); obtain ⟨hcz79_0, hcz79_1, hcz79_2, hfz79_0, hfz79_1, hfz79_2⟩ := bK3 (w := w78) BK600) | (go_at_call 115; (with_reducible refine (spec_PointOk.calls a1_0 a1_1 false false _ A46.out).mono ?_); rintro e w80 ⟨rfl, hb⟩; replace BK599 := bB BK599 hb; replace BK600 := bB BK600 hb; replace BK601 := bB BK601 hb; replace BK602 := bB BK602 hb; replace BK603 := bB BK603 hb; replace HB := bS HB hb; (try clear hb)))
       go_meet
       case rel => exact ⟨_, (true), rS, H', ⟨by first | omega | exact Nat.le_refl _⟩, ⟨bP BK599⟩, ⟨bP BK600⟩, ⟨bP BK601⟩, ⟨bP BK602⟩, ⟨bP BK603⟩, ⟨bZ HB⟩⟩
     ·replace c45 := Bool.eq_false_iff.mpr c45
      subst c45
      rw [if_neg (show ¬ (false = true) by decide)] at H
      have H' := Aside0.mk H
      clear H
      obtain ⟨hnb81, hnc81⟩ := nB NB599_600
      obtain ⟨hnb82, hnc82⟩ := nB NB599_601
      obtain ⟨hnb83, hnc83⟩ := nB NB599_602
      obtain ⟨hnb84, hnc84⟩ := nB NB599_603
      obtain ⟨hcz85_0, hcz85_1, hcz85_2, hfz85_0, hfz85_1, hfz85_2⟩ := bK3 (w := w9) BK599
      obtain ⟨hnb86, hnc86⟩ := nB NB600_601
      obtain ⟨hnb87, hnc87⟩ := nB NB600_602
      obtain ⟨hnb88, hnc88⟩ := nB NB600_603
      obtain ⟨hcz89_0, hcz89_1, hcz89_2, hfz89_0, hfz89_1, hfz89_2⟩ := bK3 (w := w9) BK600
      obtain ⟨hnb90, hnc90⟩ := nB NB601_602
      obtain ⟨hnb91, hnc91⟩ := nB NB601_603
      obtain ⟨hcz92_0, hcz92_1, hcz92_2, hfz92_0, hfz92_1, hfz92_2⟩ := bK3 (w := w9) BK601
      go_wp2_with (first | (go_at_call 115; (with_reducible refine (spec_PointOk.calls a0_0 a0_1 false false _ A44.out).mono ?_); rintro e w93 ⟨rfl, hb⟩; replace BK599 := bB BK599 hb; replace BK600 := bB BK600 hb; replace BK601 := bB BK601 hb; replace BK602 := bB BK602 hb; replace BK603 := bV 75 #[.int .i64 1, .int .i64 0] BK603 hb; replace HB := bS HB hb; (try clear hb)))
      go_meet
      case rel => exact ⟨_, (true), rS, H', ⟨by first | omega | exact Nat.le_refl _⟩, ⟨bP BK599⟩, ⟨bP BK600⟩, ⟨bP BK601⟩, ⟨bP BK602⟩, ⟨bP BK603⟩, ⟨bZ HB⟩⟩
 case rest =>
  clear HC4
  try clear c1
  try clear c2
  try clear p2
  try clear c3
  try clear c4
  try clear c5
  try clear c6
  try clear c7
  try clear c8
  try clear c9
  try clear c10
  try clear c11
  try clear c12
  try clear c13
  try clear c14
  try clear c15
  try clear c16
  try clear c17
  try clear c18
  try clear c19
  try clear c21
  try clear c22
  try clear c23
  try clear c24
  try clear c25
  try clear c27
  try clear c28
  try clear c29
  try clear c31
  try clear c32
  try clear c33
  try clear c34
  try clear c35
  try clear c37
  try clear c38
  try clear c39
  try clear c41
  try clear c42
  try clear c45
  try clear c47
  try clear c49
  try clear c50
  try clear c51
  try clear c52
  try clear c54
  try clear c55
  try clear c56
  try clear c58
  try clear c59
  try clear c66
  try clear c67
  try clear c68
  try clear c69
  try clear c71
  try clear c72
  try clear c73
  try clear c75
  try clear c76
  try clear c81
  try clear c82
  try clear c83
  try clear c84
  try clear c86
  try clear c87
  try clear c88
  try clear c90
  try clear c91
  try clear hcz14_0
  try clear hcz14_1
  try clear hcz20_0
  try clear hcz20_1
  try clear hcz20_2
  try clear hcz26_0
  try clear hcz26_1
  try clear hcz26_2
  try clear hcz30_0
  try clear hcz30_1
  try clear hcz30_2
  try clear hcz36_0
  try clear hcz36_1
  try clear hcz36_2
  try clear hcz40_0
  try clear hcz40_1
  try clear hcz40_2
  try clear hcz43_0
  try clear hcz43_1
  try clear hcz43_2
  try clear hcz53_0
  try clear hcz53_1
  try clear hcz53_2
  try clear hcz57_0
  try clear hcz57_1
  try clear hcz57_2
  try clear hcz60_0
  try clear hcz60_1
  try clear hcz60_2
  try clear hcz62_0
  try clear hcz62_1
  try clear hcz62_2
  try clear hcz64_0
  try clear hcz64_1
  try clear hcz64_2
  try clear hcz70_0
  try clear hcz70_1
  try clear hcz70_2
  try clear hcz74_0
  try clear hcz74_1
  try clear hcz74_2
  try clear hcz77_0
  try clear hcz77_1
  try clear hcz77_2
  try clear hcz79_0
  try clear hcz79_1
  try clear hcz79_2
  try clear hcz85_0
  try clear hcz85_1
  try clear hcz85_2
  try clear hcz89_0
  try clear hcz89_1
  try clear hcz89_2
  try clear hcz92_0
  try clear hcz92_1
  try clear hcz92_2
  try clear hfz14_0
  try clear hfz14_1
  try clear hfz20_0
  try clear hfz20_1
  try clear hfz20_2
  try clear hfz26_0
  try clear hfz26_1
  try clear hfz26_2
  try clear hfz30_0
  try clear hfz30_1
  try clear hfz30_2
  try clear hfz36_0
  try clear hfz36_1
  try clear hfz36_2
  try clear hfz40_0
  try clear hfz40_1
  try clear hfz40_2
  try clear hfz43_0
  try clear hfz43_1
  try clear hfz43_2
  try clear hfz53_0
  try clear hfz53_1
  try clear hfz53_2
  try clear hfz57_0
  try clear hfz57_1
  try clear hfz57_2
  try clear hfz60_0
  try clear hfz60_1
  try clear hfz60_2
  try clear hfz62_0
  try clear hfz62_1
  try clear hfz62_2
  try clear hfz64_0
  try clear hfz64_1
  try clear hfz64_2
  try clear hfz70_0
  try clear hfz70_1
  try clear hfz70_2
  try clear hfz74_0
  try clear hfz74_1
  try clear hfz74_2
  try clear hfz77_0
  try clear hfz77_1
  try clear hfz77_2
  try clear hfz79_0
  try clear hfz79_1
  try clear hfz79_2
  try clear hfz85_0
  try clear hfz85_1
  try clear hfz85_2
  try clear hfz89_0
  try clear hfz89_1
  try clear hfz89_2
  try clear hfz92_0
  try clear hfz92_1
  try clear hfz92_2
  obtain ⟨kq, x36_3, rfl, HA, HJ3, BK599, BK600, BK601, BK602, BK603, HB⟩ := hcut
  cases kq with
  | zero => exact absurd HA.out (by simp [spec_PairLine.j0])
  | succ kj3 =>
   have H := HA.out
   clear HA
   simp only [spec_PairLine.j0] at H
   by_cases c94 : x36_3 = true
   ·subst c94
    rw [if_pos rfl] at H
    simp only [Option.some.injEq, Prod.mk.injEq] at H
    obtain ⟨rfl, rfl⟩ := H
    obtain ⟨hnb95, hnc95⟩ := nB NB603_599
    obtain ⟨hnb96, hnc96⟩ := nB NB603_600
    obtain ⟨hnb97, hnc97⟩ := nB NB603_601
    obtain ⟨hnb98, hnc98⟩ := nB NB603_602
    obtain ⟨hcz99_0, hcz99_1, hfz99_0, hfz99_1⟩ := bK2 (w := wc) BK603
    obtain ⟨hnb100, hnc100⟩ := nB NB602_599
    obtain ⟨hnb101, hnc101⟩ := nB NB602_600
    obtain ⟨hnb102, hnc102⟩ := nB NB602_601
    obtain ⟨hcz103_0, hcz103_1, hfz103_0, hfz103_1⟩ := bK2 (w := wc) BK602
    go_wp2
    refine rC gb602 75 #[.int .i64 1, .int .i64 0] (bU BK602) Tryz.underlying75 ?_
    exact ⟨rR, bZ HB⟩
   ·replace c94 := Bool.eq_false_iff.mpr c94
    subst c94
    rw [if_neg (show ¬ (false = true) by decide)] at H
    replace H := Option.bind_eq_some_iff.mp H
    obtain ⟨⟨t607, t608⟩, A1040, H⟩ := H
    have A104 := Aside0.mk A1040
    clear A1040
    by_cases c105 : t608 = true
    ·subst c105
     rw [if_pos rfl] at H
     replace H := Option.bind_eq_some_iff.mp H
     obtain ⟨t609, A1060, H⟩ := H
     have A106 := Aside0.mk A1060
     clear A1060
     replace H := Option.bind_eq_some_iff.mp H
     obtain ⟨t610, A1070, H⟩ := H
     have A107 := Aside0.mk A1070
     clear A1070
     replace H := Option.bind_eq_some_iff.mp H
     obtain ⟨t611, A1080, H⟩ := H
     have A108 := Aside0.mk A1080
     clear A1080
     replace H := Option.bind_eq_some_iff.mp H
     obtain ⟨t612, A1090, H⟩ := H
     have A109 := Aside0.mk A1090
     clear A1090
     replace H := Option.bind_eq_some_iff.mp H
     obtain ⟨t613, A1100, H⟩ := H
     have A110 := Aside0.mk A1100
     clear A1100
     simp only [Option.some.injEq, Prod.mk.injEq] at H
     obtain ⟨rfl, rfl⟩ := H
     obtain ⟨hnb111, hnc111⟩ := nB NB599_600
     obtain ⟨hnb112, hnc112⟩ := nB NB599_601
     obtain ⟨hnb113, hnc113⟩ := nB NB599_602
     obtain ⟨hnb114, hnc114⟩ := nB NB599_603
     obtain ⟨hcz115_0, hcz115_1, hcz115_2, hfz115_0, hfz115_1, hfz115_2⟩ := bK3 (w := wc) BK599
     obtain ⟨hnb116, hnc116⟩ := nB NB600_601
     obtain ⟨hnb117, hnc117⟩ := nB NB600_602
     obtain ⟨hnb118, hnc118⟩ := nB NB600_603
     obtain ⟨hcz119_0, hcz119_1, hcz119_2, hfz119_0, hfz119_1, hfz119_2⟩ := bK3 (w := wc) BK600
     try go_wp2_with (first | (refine gC (some 41) Tryz.func140 #[.agg #[.int .i64 a0_0, .int .i64 a0_1, .bool a0_2], .agg #[.int .i64 a1_0, .int .i64 a1_1, .bool a1_2]] ?_; (with_reducible refine (spec_l07Slope.calls kj3 a0_0 a0_1 a0_2 a1_0 a1_1 a1_2 t607 true _ A104.out).mono ?_); rintro e w120 ⟨rfl, hb⟩; refine ⟨_, rfl, ?_⟩; replace BK599 := bB BK599 hb; replace BK600 := bB BK600 hb; replace BK601 := bB BK601 hb; replace BK602 := bB BK602 hb; replace BK603 := bB BK603 hb; replace HB := bS HB hb; (try clear hb)))
     replace BK599 := Aside0.mk (blk_drew BK599.out)
     replace BK600 := Aside0.mk (blk_drew BK600.out)
     replace BK601 := Aside0.mk (blk_drew BK601.out)
     replace BK602 := Aside0.mk (blk_drew BK602.out)
     replace BK603 := Aside0.mk (blk_drew BK603.out)
     replace HB := Aside0.mk (below_drew1 HB.out)
     refine start_ (n := 7) (S := fun w' => SP3 w' gb601 (.int .i64 a2_0) (.int .i64 a2_1) (.bool a2_2) (SQ3 w' gb599 (.int .i64 a0_0) (.int .i64 a0_1) (.bool a0_2))) (ds := []) #[false, false, false, false, false, false, false] (by kernel_rfl) rfl rfl (bS3 BK601 (bT3 BK599)) (fun hHeld => ?_)
     generalize w120.drew = w121 at BK599 BK600 BK601 BK602 BK603 HB hHeld ⊢
     refine pJ 0 (some 47) ?_
     refine pJ 3 (some 50) ?_
     refine tJ 1 (some 48) hHeld ?_
     refine tJ 4 (some 51) hHeld ?_
     refine one_ (i := 2) (N := some 49) #[true, true, true, true, true, false, false] rfl rfl (by kernel_rfl) (by decide) (fun K hK => ?_)
     refine gO Tryz.func113 #[.int .i64 0, .int .i64 a2_0] ?_
     with_reducible refine (spec_FpSub.calls 0 a2_0 t609 _ A106.out).mono ?_
     rintro e w' ⟨rfl, ⟨nd, rfl⟩⟩
     refine ⟨_, rfl, ?_⟩
     refine hK.out _ _ (bS3 BK601 (bT3 BK599)) (fun hHeld => ?_)
     clear hK K
     refine nO (some 49) ?_
     refine one_ (i := 5) (N := some 52) #[true, true, true, true, true, true, false] rfl rfl (by kernel_rfl) (by decide) (fun K hK => ?_)
     refine gO Tryz.func113 #[.int .i64 t609, .int .i64 a0_0] ?_
     with_reducible refine (spec_FpSub.calls t609 a0_0 t610 _ A107.out).mono ?_
     rintro e w' ⟨rfl, ⟨nd, rfl⟩⟩
     refine ⟨_, rfl, ?_⟩
     refine hK.out _ _ (bS3 BK601 (bT3 BK599)) (fun hHeld => ?_)
     clear hK K
     refine nO (some 52) ?_
     refine pJ 6 (some 10) ?_
     refine done_ (by kernel_rfl) ?_
     try go_wp2
     (try simp only [World.drewN_drewN]); (try (rw [drewN_self w121]; generalize hq_ : World.drewN w121 _ = w121; replace BK599 : Aside0 (w121.heap[gb599]? = some (.cells #[.int .i64 a0_0, .int .i64 a0_1, .bool a0_2] 28 (0, 0))) := ⟨by rw [← hq_]; exact (bP BK599)⟩; replace BK600 : Aside0 (w121.heap[gb600]? = some (.cells #[.int .i64 a1_0, .int .i64 a1_1, .bool a1_2] 28 (0, 0))) := ⟨by rw [← hq_]; exact (bP BK600)⟩; replace BK601 : Aside0 (w121.heap[gb601]? = some (.cells #[.int .i64 a2_0, .int .i64 a2_1, .bool a2_2] 28 (0, 0))) := ⟨by rw [← hq_]; exact (bP BK601)⟩; replace BK602 : Aside0 (w121.heap[gb602]? = some (.cells #[.int .i64 0, .int .i64 0] 75 (0, 0))) := ⟨by rw [← hq_]; exact (bP BK602)⟩; replace BK603 : Aside0 (w121.heap[gb603]? = some (.cells #[.int .i64 1, .int .i64 0] 75 (0, 0))) := ⟨by rw [← hq_]; exact (bP BK603)⟩; replace HB : Aside0 (Below w.heap.size w w121) := ⟨by rw [← hq_]; exact (bZ HB)⟩; clear hq_))
     replace BK599 := Aside0.mk (blk_drew BK599.out)
     replace BK600 := Aside0.mk (blk_drew BK600.out)
     replace BK601 := Aside0.mk (blk_drew BK601.out)
     replace BK602 := Aside0.mk (blk_drew BK602.out)
     replace BK603 := Aside0.mk (blk_drew BK603.out)
     replace HB := Aside0.mk (below_drew1 HB.out)
     refine start_ (n := 11) (S := fun w' => SP3 w' gb599 (.int .i64 a0_0) (.int .i64 a0_1) (.bool a0_2) (SQ3 w' gb601 (.int .i64 a2_0) (.int .i64 a2_1) (.bool a2_2))) (ds := []) #[false, false, false, false, false, false, false, false, false, false, false] (by kernel_rfl) rfl rfl (bS3 BK599 (bT3 BK601)) (fun hHeld => ?_); refine with_tabW spec_PairLine.tab8 spec_PairLine.bits8 (fun HT_ HW_ => ?_)
     generalize w121.drew = w122 at BK599 BK600 BK601 BK602 BK603 HB hHeld ⊢
     refine pI 0 (some 53) HT_.out ?_
     refine pI 3 (some 56) HT_.out ?_
     refine pI 4 (some 57) HT_.out ?_
     refine pI 7 (some 60) HT_.out ?_
     refine tI6 1 (some 54) HT_.out HW_.out hHeld ?_
     refine tI6 8 (some 61) HT_.out HW_.out hHeld ?_
     refine oI 2 (some 55) HT_.out (fun K hK => ?_)
     refine gO Tryz.func113 #[.int .i64 0, .int .i64 a0_1] ?_
     with_reducible refine (spec_FpSub.calls 0 a0_1 t611 _ A108.out).mono ?_
     rintro e w' ⟨rfl, ⟨nd, rfl⟩⟩
     refine ⟨_, rfl, ?_⟩
     refine hK.out _ _ (bS3 BK599 (bT3 BK601)) (fun hHeld => ?_)
     clear hK K
     refine nO (some 55) ?_
     refine oI 5 (some 58) HT_.out (fun K hK => ?_)
     refine gO Tryz.func112 #[.int .i64 t607, .int .i64 t610] ?_
     with_reducible refine (spec_FpMul.calls t607 t610 t612 _ A109.out).mono ?_
     rintro e w' ⟨rfl, ⟨nd, rfl⟩⟩
     refine ⟨_, rfl, ?_⟩
     refine hK.out _ _ (bS3 BK599 (bT3 BK601)) (fun hHeld => ?_)
     clear hK K
     refine nO (some 58) ?_
     refine oI 6 (some 59) HT_.out (fun K hK => ?_)
     refine gO Tryz.func113 #[.int .i64 t611, .int .i64 t612] ?_
     with_reducible refine (spec_FpSub.calls t611 t612 t613 _ A110.out).mono ?_
     rintro e w' ⟨rfl, ⟨nd, rfl⟩⟩
     refine ⟨_, rfl, ?_⟩
     refine hK.out _ _ (bS3 BK599 (bT3 BK601)) (fun hHeld => ?_)
     clear hK K
     refine nO (some 59) ?_
     refine pI 9 (some 62) HT_.out ?_
     refine oI 10 (none) HT_.out (fun K hK => ?_)
     have hs123 : w122.cell? ⟨gb602, 0, none⟩ = some (.int .i64 0) := bc BK602 0
     have hfs123 := blk_frozen BK602.out 0
     have hns123_0 := NB599_602.out
     have hns123_1 := NB600_602.out
     have hns123_2 := NB601_602.out
     have hns123_4 := NB603_602.out
     have hms123_0 := NB602_599.out
     have hms123_1 := NB602_600.out
     have hms123_2 := NB602_601.out
     have hms123_4 := NB602_603.out
     have hs124 : w122.cell? ⟨gb602, 1, none⟩ = some (.int .i64 0) := bc BK602 1
     have hfs124 := blk_frozen BK602.out 1
     have hns124_0 := NB599_602.out
     have hns124_1 := NB600_602.out
     have hns124_2 := NB601_602.out
     have hns124_4 := NB603_602.out
     have hms124_0 := NB602_599.out
     have hms124_1 := NB602_600.out
     have hms124_2 := NB602_601.out
     have hms124_4 := NB602_603.out
     refine skip_ (w1 := ?_) (by rfl) rfl ?_ ?_
     rotate_left
     ·go_simp
      rfl
     refine hK.out _ _ ⟨((cell_far (p := ⟨gb602, _, none⟩) NB599_602.out _).trans (((cell_far (p := ⟨gb602, _, none⟩) NB599_602.out _).trans (hHeld.1)))), ((cell_far (p := ⟨gb602, _, none⟩) NB599_602.out _).trans (((cell_far (p := ⟨gb602, _, none⟩) NB599_602.out _).trans (hHeld.2.1)))), ((cell_far (p := ⟨gb602, _, none⟩) NB599_602.out _).trans (((cell_far (p := ⟨gb602, _, none⟩) NB599_602.out _).trans (hHeld.2.2.1)))), ((cell_far (p := ⟨gb602, _, none⟩) NB601_602.out _).trans (((cell_far (p := ⟨gb602, _, none⟩) NB601_602.out _).trans (hHeld.2.2.2.1)))), ((cell_far (p := ⟨gb602, _, none⟩) NB601_602.out _).trans (((cell_far (p := ⟨gb602, _, none⟩) NB601_602.out _).trans (hHeld.2.2.2.2.1)))), ((cell_far (p := ⟨gb602, _, none⟩) NB601_602.out _).trans (((cell_far (p := ⟨gb602, _, none⟩) NB601_602.out _).trans (hHeld.2.2.2.2.2))))⟩ (fun hHeld => ?_)
     clear hK K
     refine done_ (done_of HT_.out (by kernel_rfl)) ?_
     try go_wp2
     refine rC gb602 75 #[.int .i64 t613, .int .i64 a2_1] (bU BK602) Tryz.underlying75 ?_
     exact ⟨rR, bZ HB⟩
    ·replace c105 := Bool.eq_false_iff.mpr c105
     subst c105
     rw [if_neg (show ¬ (false = true) by decide)] at H
     simp only [Option.some.injEq, Prod.mk.injEq] at H
     obtain ⟨rfl, rfl⟩ := H
     obtain ⟨hnb125, hnc125⟩ := nB NB599_600
     obtain ⟨hnb126, hnc126⟩ := nB NB599_601
     obtain ⟨hnb127, hnc127⟩ := nB NB599_602
     obtain ⟨hnb128, hnc128⟩ := nB NB599_603
     obtain ⟨hcz129_0, hcz129_1, hcz129_2, hfz129_0, hfz129_1, hfz129_2⟩ := bK3 (w := wc) BK599
     obtain ⟨hnb130, hnc130⟩ := nB NB600_601
     obtain ⟨hnb131, hnc131⟩ := nB NB600_602
     obtain ⟨hnb132, hnc132⟩ := nB NB600_603
     obtain ⟨hcz133_0, hcz133_1, hcz133_2, hfz133_0, hfz133_1, hfz133_2⟩ := bK3 (w := wc) BK600
     go_wp2_with (first | (refine gC (some 41) Tryz.func140 #[.agg #[.int .i64 a0_0, .int .i64 a0_1, .bool a0_2], .agg #[.int .i64 a1_0, .int .i64 a1_1, .bool a1_2]] ?_; (with_reducible refine (spec_l07Slope.calls kj3 a0_0 a0_1 a0_2 a1_0 a1_1 a1_2 t607 false _ A104.out).mono ?_); rintro e w134 ⟨rfl, hb⟩; refine ⟨_, rfl, ?_⟩; replace BK599 := bB BK599 hb; replace BK600 := bB BK600 hb; replace BK601 := bB BK601 hb; replace BK602 := bB BK602 hb; replace BK603 := bB BK603 hb; replace HB := bS HB hb; (try clear hb); obtain ⟨hnb135, hnc135⟩ := nB NB603_601; obtain ⟨hnb136, hnc136⟩ := nB NB603_602; obtain ⟨hcz137_0, hcz137_1, hfz137_0, hfz137_1⟩ := bK2 (w := w134) BK603; obtain ⟨hnb138, hnc138⟩ := nB NB602_601; obtain ⟨hcz139_0, hcz139_1, hfz139_0, hfz139_1⟩ := bK2 (w := w134) BK602))
     refine rC gb602 75 #[.int .i64 1, .int .i64 0] (bU BK602) Tryz.underlying75 ?_
     exact ⟨rR, bZ HB⟩
def spec_Miller.l0 : Nat → Int → Int → Int → Bool → Int → Int → Bool → Int → Int → Int → Int → Bool → Option (Int × Int)
 | 0, _, _, _, _, _, _, _, _, _, _, _, _ => none
 | k + 1, x7, x615000, x615001, x615002, x616000, x616001, x616002, x618000, x618001, x619000, x619001, x619002 => if x7 ≥ 0 then ((spec_TwoMul.f x618000 x618001 x618000 x618001).bind fun bt619 => ((spec_PairLine.f k x619000 x619001 x619002 x619000 x619001 x619002 x616000 x616001 x616002).bind fun bt621 => ((spec_TwoMul.f bt619.1 bt619.2 bt621.1 bt621.2).bind fun bt623 => ((spec_PointAdd.f k x619000 x619001 x619002 x619000 x619001 x619002).bind fun bt625 => (if 0 ≤ (IntKind.u64.wrap (x7)) then (if ((shr .i64 1009 (IntKind.u64.wrap (x7))) % 2) = 1 then ((spec_PairLine.f k bt625.1 bt625.2.1 bt625.2.2 x615000 x615001 x615002 x616000 x616001 x616002).bind fun bt628 => ((spec_TwoMul.f bt623.1 bt623.2 bt628.1 bt628.2).bind fun bt630 => ((spec_PointAdd.f k bt625.1 bt625.2.1 bt625.2.2 x615000 x615001 x615002).bind fun bt632 => (spec_Miller.l0 k (wrap64 (x7 - 1)) x615000 x615001 x615002 x616000 x616001 x616002 bt630.1 bt630.2 bt632.1 bt632.2.1 bt632.2.2)))) else (spec_Miller.l0 k (wrap64 (x7 - 1)) x615000 x615001 x615002 x616000 x616001 x616002 bt623.1 bt623.2 bt625.1 bt625.2.1 bt625.2.2)) else (none)))))) else (some (x618000, x618001))
def spec_Miller.f (k : Nat) (a0_0 : Int) (a0_1 : Int) (a0_2 : Bool) (a1_0 : Int) (a1_1 : Int) (a1_2 : Bool) : Option (Int × Int) := spec_Miller.l0 k 8 a0_0 a0_1 a0_2 a1_0 a1_1 a1_2 1 0 a0_0 a0_1 a0_2
def spec_Miller.T6 : Bool × List (List Nat × List Nat) := (true, [([], []), ([], []), ([0, 1], [0, 1]), ([], []), ([], []), ([], []), ([3, 4, 5, 2], [3, 4, 5]), ([2, 6, 6], [2, 6]), ([7, 7, 0, 1, 2, 3, 4, 5, 6, 7], [7])])
def spec_Miller.B6 : List Nat := [0, 0, 3, 0, 0, 0, 63, 127, 255]
theorem spec_Miller.tab6 : rtab .any (opsOf Tryz.f118 6) = spec_Miller.T6 := by kernel_rfl
theorem spec_Miller.bits6 : waitsOk spec_Miller.T6.2 spec_Miller.B6 = true := by kernel_rfl
set_option maxHeartbeats 8000000 in
set_option maxRecDepth 100000 in
theorem spec_Miller.calls (k : Nat) (a0_0 : Int) (a0_1 : Int) (a0_2 : Bool) (a1_0 : Int) (a1_1 : Int) (a1_2 : Bool) (r1 : Int) (r2 : Int) (w : World) (h : spec_Miller.f k a0_0 a0_1 a0_2 a1_0 a1_1 a1_2 = some (r1, r2)) :
  Calls Tryz.prog 118 #[.agg #[.int .i64 a0_0, .int .i64 a0_1, .bool a0_2], .agg #[.int .i64 a1_0, .int .i64 a1_1, .bool a1_2]] w fun e w' => e = .returned (.agg #[.int .i64 r1, .int .i64 r2]) ∧ Below w.heap.size w w' := by
 have hu28 := Tryz.underlying28
 have hu75 := Tryz.underlying75
 have HB := Aside0.mk (Below.refl w.heap.size w)
 have H : (spec_Miller.l0 k 8 a0_0 a0_1 a0_2 a1_0 a1_1 a1_2 1 0 a0_0 a0_1 a0_2) = some (r1, r2) := h
 clear h
 have H' := Aside0.mk H
 clear H
 go_enter Tryz.func118, Tryz.ntmps118
 go_wp2_with (first | (refine gB 2 #[.int .i64 a0_0, .int .i64 a0_1, .bool a0_2] 28 ?_; intro gb614 hg w3 BK614 hb; have GW614 := bG HB hg; replace HB := bS HB hb; clear hb hg) | (refine gB 3 #[.int .i64 a1_0, .int .i64 a1_1, .bool a1_2] 28 ?_; intro gb615 hg w4 BK615 hb; have GW615 := bG HB hg; replace HB := bS HB hb; obtain ⟨NB614_615, NB615_614⟩ := bN BK614 hg; replace BK614 := bB BK614 hb; clear hb hg) | (refine gB 4 #[.int .i64 0, .int .i64 0] 75 ?_; intro gb616 hg w5 BK616 hb; have GW616 := bG HB hg; replace HB := bS HB hb; obtain ⟨NB614_616, NB616_614⟩ := bN BK614 hg; replace BK614 := bB BK614 hb; obtain ⟨NB615_616, NB616_615⟩ := bN BK615 hg; replace BK615 := bB BK615 hb; clear hb hg) | (refine gB 5 #[.int .i64 0, .int .i64 0] 75 ?_; intro gb617 hg w6 BK617 hb; have GW617 := bG HB hg; replace HB := bS HB hb; obtain ⟨NB614_617, NB617_614⟩ := bN BK614 hg; replace BK614 := bB BK614 hb; obtain ⟨NB615_617, NB617_615⟩ := bN BK615 hg; replace BK615 := bB BK615 hb; obtain ⟨NB616_617, NB617_616⟩ := bN BK616 hg; replace BK616 := bB BK616 hb; clear hb hg; obtain ⟨hnb7, hnc7⟩ := nB NB617_614; obtain ⟨hnb8, hnc8⟩ := nB NB617_615; obtain ⟨hnb9, hnc9⟩ := nB NB617_616; obtain ⟨hcz10_0, hcz10_1, hfz10_0, hfz10_1⟩ := bK2 (w := w6) BK617; obtain ⟨hnb11, hnc11⟩ := nB NB614_615; obtain ⟨hnb12, hnc12⟩ := nB NB614_616; obtain ⟨hcz13_0, hcz13_1, hcz13_2, hfz13_0, hfz13_1, hfz13_2⟩ := bK3 (w := w6) BK614) | (refine gB 6 #[.int .i64 0, .int .i64 0, .bool false] 28 ?_; intro gb618 hg w14 BK618 hb; have GW618 := bG HB hg; replace HB := bS HB hb; obtain ⟨NB614_618, NB618_614⟩ := bN BK614 hg; replace BK614 := bB BK614 hb; obtain ⟨NB615_618, NB618_615⟩ := bN BK615 hg; replace BK615 := bB BK615 hb; obtain ⟨NB616_618, NB618_616⟩ := bN BK616 hg; replace BK616 := bB BK616 hb; have NB617_618 := Aside0.mk ((by rw [hg]; exact Nat.ne_of_lt (blk_lt (g := gb617) (o := .cells #[.int .i64 1, .int .i64 0] 75 (0, 0)) (bU BK617)) : gb617 ≠ gb618)); have NB618_617 := Aside0.mk ((by rw [hg]; exact Nat.ne_of_gt (blk_lt (g := gb617) (o := .cells #[.int .i64 1, .int .i64 0] 75 (0, 0)) (bU BK617)) : gb618 ≠ gb617)); replace BK617 := bV 75 #[.int .i64 1, .int .i64 0] BK617 hb; clear hb hg; obtain ⟨hnb15, hnc15⟩ := nB NB618_614; obtain ⟨hnb16, hnc16⟩ := nB NB618_615; obtain ⟨hnb17, hnc17⟩ := nB NB618_616; obtain ⟨hnb18, hnc18⟩ := nB NB618_617; obtain ⟨hcz19_0, hcz19_1, hcz19_2, hfz19_0, hfz19_1, hfz19_2⟩ := bK3 (w := w14) BK618))
 go_loopg [7] k (fun kq v7 w' => ∃ (x7_1 : Int) (x618000_1 : Int) (x618001_1 : Int) (x619000_1 : Int) (x619001_1 : Int) (x619002_1 : Bool), v7 = .int .i64 x7_1 ∧ Aside0 (spec_Miller.l0 kq x7_1 a0_0 a0_1 a0_2 a1_0 a1_1 a1_2 x618000_1 x618001_1 x619000_1 x619001_1 x619002_1 = some (r1, r2)) ∧ Aside0 (kq ≤ k) ∧ Aside0 (w'.heap[gb614]? = some (.cells #[.int .i64 a0_0, .int .i64 a0_1, .bool a0_2] 28 (0, 0))) ∧ Aside0 (w'.heap[gb615]? = some (.cells #[.int .i64 a1_0, .int .i64 a1_1, .bool a1_2] 28 (0, 0))) ∧ Aside0 (w'.heap[gb616]? = some (.cells #[.int .i64 0, .int .i64 0] 75 (0, 0))) ∧ Aside0 (w'.heap[gb617]? = some (.cells #[.int .i64 x618000_1, .int .i64 x618001_1] 75 (0, 0))) ∧ Aside0 (w'.heap[gb618]? = some (.cells #[.int .i64 x619000_1, .int .i64 x619001_1, .bool x619002_1] 28 (0, 0))) ∧ Aside0 (Below w.heap.size w w'))
 case atStart => exact ⟨(8), (1), (0), (a0_0), (a0_1), (a0_2), rS, H', ⟨Nat.le_refl _⟩, ⟨bP BK614⟩, ⟨bP BK615⟩, ⟨bP BK616⟩, ⟨bP BK617⟩, ⟨bU BK618⟩, ⟨bZ HB⟩⟩
 case round =>
  clear H'
  try clear c1
  try clear p2
  try clear c7
  try clear c8
  try clear c9
  try clear c11
  try clear c12
  try clear c15
  try clear c16
  try clear c17
  try clear c18
  try clear hcz10_0
  try clear hcz10_1
  try clear hcz13_0
  try clear hcz13_1
  try clear hcz13_2
  try clear hcz19_0
  try clear hcz19_1
  try clear hcz19_2
  try clear hfz10_0
  try clear hfz10_1
  try clear hfz13_0
  try clear hfz13_1
  try clear hfz13_2
  try clear hfz19_0
  try clear hfz19_1
  try clear hfz19_2
  obtain ⟨x7_1, x618000_1, x618001_1, x619000_1, x619001_1, x619002_1, rfl, HA, HK1, BK614, BK615, BK616, BK617, BK618, HB⟩ := hrel
  cases gk with
  | zero => exact absurd HA.out (by simp [spec_Miller.l0])
  | succ k1 =>
   have H := HA.out
   clear HA
   simp only [spec_Miller.l0] at H
   by_cases c20 : x7_1 ≥ 0
   ·rw [if_pos c20] at H
    have c20b0 := decide_eq_true c20
    clear c20
    replace H := Option.bind_eq_some_iff.mp H
    obtain ⟨⟨t619, t620⟩, A210, H⟩ := H
    have A21 := Aside0.mk A210
    clear A210
    replace H := Option.bind_eq_some_iff.mp H
    obtain ⟨⟨t621, t622⟩, A220, H⟩ := H
    have A22 := Aside0.mk A220
    clear A220
    replace H := Option.bind_eq_some_iff.mp H
    obtain ⟨⟨t623, t624⟩, A230, H⟩ := H
    have A23 := Aside0.mk A230
    clear A230
    replace H := Option.bind_eq_some_iff.mp H
    obtain ⟨⟨t625, t626, t627⟩, A240, H⟩ := H
    have A24 := Aside0.mk A240
    clear A240
    obtain ⟨ji25, hji25⟩ : ∃ j_ : Int, (IntKind.u64.wrap (x7_1)) = j_ := ⟨_, rfl⟩
    replace H : (if 0 ≤ (ji25) then (if ((shr .i64 1009 (ji25)) % 2) = 1 then ((spec_PairLine.f k1 t625 t626 t627 a0_0 a0_1 a0_2 a1_0 a1_1 a1_2).bind fun bt628 => ((spec_TwoMul.f t623 t624 bt628.1 bt628.2).bind fun bt630 => ((spec_PointAdd.f k1 t625 t626 t627 a0_0 a0_1 a0_2).bind fun bt632 => (spec_Miller.l0 k1 (wrap64 (x7_1 - 1)) a0_0 a0_1 a0_2 a1_0 a1_1 a1_2 bt630.1 bt630.2 bt632.1 bt632.2.1 bt632.2.2)))) else (spec_Miller.l0 k1 (wrap64 (x7_1 - 1)) a0_0 a0_1 a0_2 a1_0 a1_1 a1_2 t623 t624 t625 t626 t627)) else (none)) = some (r1, r2) := by first | (rw [hji25] at H; exact H) | (simp only [hji25] at H ⊢; exact H)
    (try rw [hji25] at A21)
    (try rw [hji25] at A22)
    (try rw [hji25] at A23)
    (try rw [hji25] at A24)
    by_cases c26 : 0 ≤ (ji25)
    ·rw [if_pos c26] at H
     have c26b0 := eq_true c26
     have c26b1 := decide_eq_true c26
     clear c26
     obtain ⟨ji27, hji27⟩ : ∃ j_ : Int, (shr .i64 1009 (ji25)) = j_ := ⟨_, rfl⟩
     replace H : (if ((ji27) % 2) = 1 then ((spec_PairLine.f k1 t625 t626 t627 a0_0 a0_1 a0_2 a1_0 a1_1 a1_2).bind fun bt628 => ((spec_TwoMul.f t623 t624 bt628.1 bt628.2).bind fun bt630 => ((spec_PointAdd.f k1 t625 t626 t627 a0_0 a0_1 a0_2).bind fun bt632 => (spec_Miller.l0 k1 (wrap64 (x7_1 - 1)) a0_0 a0_1 a0_2 a1_0 a1_1 a1_2 bt630.1 bt630.2 bt632.1 bt632.2.1 bt632.2.2)))) else (spec_Miller.l0 k1 (wrap64 (x7_1 - 1)) a0_0 a0_1 a0_2 a1_0 a1_1 a1_2 t623 t624 t625 t626 t627)) = some (r1, r2) := by first | (rw [hji27] at H; exact H) | (simp only [hji27] at H ⊢; exact H)
     (try rw [hji27] at A21)
     (try rw [hji27] at A22)
     (try rw [hji27] at A23)
     (try rw [hji27] at A24)
     have hji27_ : (1009 / 2 ^ min (ji25).toNat 64) = ji27 := hji27
     have hji27z : (ji25) ≤ 64 → (1009 / 2 ^ (ji25).toNat) = ji27 := shr_small hji27
     have hji27t : ∀ m_ : Int, Int.tmod ji27 m_ = ji27 % m_ := fun m_ => Int.tmod_eq_emod_of_nonneg (by rw [← hji27_]; exact Int.ediv_nonneg (by decide) (Int.le_of_lt (Int.pow_pos (by decide))))
     by_cases c28 : ((ji27) % 2) = 1
     ·rw [if_pos c28] at H
      have c28b0 : (((ji27) % 2) == 1) = true := beq_iff_eq.mpr c28
      have c28b1 : (((ji27) % 2) != 1) = false := bne_eq_false_iff_eq.mpr c28
      clear c28
      replace H := Option.bind_eq_some_iff.mp H
      obtain ⟨⟨t628, t629⟩, A290, H⟩ := H
      have A29 := Aside0.mk A290
      clear A290
      replace H := Option.bind_eq_some_iff.mp H
      obtain ⟨⟨t630, t631⟩, A300, H⟩ := H
      have A30 := Aside0.mk A300
      clear A300
      replace H := Option.bind_eq_some_iff.mp H
      obtain ⟨⟨t632, t633, t634⟩, A310, H⟩ := H
      have A31 := Aside0.mk A310
      clear A310
      have H' := Aside0.mk H
      clear H
      try go_wp2
      replace BK614 := Aside0.mk (blk_drew BK614.out)
      replace BK615 := Aside0.mk (blk_drew BK615.out)
      replace BK616 := Aside0.mk (blk_drew BK616.out)
      replace BK617 := Aside0.mk (blk_drew BK617.out)
      replace BK618 := Aside0.mk (blk_drew BK618.out)
      replace HB := Aside0.mk (below_drew1 HB.out)
      refine start_ (n := 9) (S := fun w' => SP2 w' gb617 (.int .i64 x618000_1) (.int .i64 x618001_1) (SP3 w' gb618 (.int .i64 x619000_1) (.int .i64 x619001_1) (.bool x619002_1) (SQ3 w' gb615 (.int .i64 a1_0) (.int .i64 a1_1) (.bool a1_2)))) (ds := [8]) #[false, false, false, false, false, false, false, false, false] (by kernel_rfl) rfl rfl (bS2 BK617 (bS3 BK618 (bT3 BK615))) (fun hHeld => ?_); refine with_tabW spec_Miller.tab6 spec_Miller.bits6 (fun HT_ HW_ => ?_)
      generalize wr.drew = w32 at BK614 BK615 BK616 BK617 BK618 HB hHeld ⊢
      refine tI8 0 (some 14) HT_.out HW_.out hHeld ?_
      refine tI8 1 (some 15) HT_.out HW_.out hHeld ?_
      refine tI8 3 (some 17) HT_.out HW_.out hHeld ?_
      refine tI8 4 (some 18) HT_.out HW_.out hHeld ?_
      refine tI8 5 (some 19) HT_.out HW_.out hHeld ?_
      refine oI 2 (some 16) HT_.out (fun K hK => ?_)
      refine gO Tryz.func120 #[.agg #[.int .i64 x618000_1, .int .i64 x618001_1], .agg #[.int .i64 x618000_1, .int .i64 x618001_1]] ?_
      with_reducible refine (spec_TwoMul.calls x618000_1 x618001_1 x618000_1 x618001_1 t619 t620 _ A21.out).mono ?_
      rintro e w33 ⟨rfl, hb⟩
      refine ⟨_, rfl, ?_⟩
      replace BK614 := bB BK614 hb
      replace BK615 := bB BK615 hb
      replace BK616 := bB BK616 hb
      replace BK617 := bB BK617 hb
      replace BK618 := bB BK618 hb
      replace HB := bS HB hb
      (try clear hb)
      refine hK.out _ _ (bS2 BK617 (bS3 BK618 (bT3 BK615))) (fun hHeld => ?_)
      clear hK K
      refine nO (some 16) ?_
      refine oI 6 (some 20) HT_.out (fun K hK => ?_)
      refine gO Tryz.func141 #[.agg #[.int .i64 x619000_1, .int .i64 x619001_1, .bool x619002_1], .agg #[.int .i64 x619000_1, .int .i64 x619001_1, .bool x619002_1], .agg #[.int .i64 a1_0, .int .i64 a1_1, .bool a1_2]] ?_
      with_reducible refine (spec_PairLine.calls k1 x619000_1 x619001_1 x619002_1 x619000_1 x619001_1 x619002_1 a1_0 a1_1 a1_2 t621 t622 _ A22.out).mono ?_
      rintro e w34 ⟨rfl, hb⟩
      refine ⟨_, rfl, ?_⟩
      replace BK614 := bB BK614 hb
      replace BK615 := bB BK615 hb
      replace BK616 := bB BK616 hb
      replace BK617 := bB BK617 hb
      replace BK618 := bB BK618 hb
      replace HB := bS HB hb
      (try clear hb)
      refine hK.out _ _ (bS2 BK617 (bS3 BK618 (bT3 BK615))) (fun hHeld => ?_)
      clear hK K
      refine nO (some 20) ?_
      refine oI 7 (some 21) HT_.out (fun K hK => ?_)
      refine gO Tryz.func120 #[.agg #[.int .i64 t619, .int .i64 t620], .agg #[.int .i64 t621, .int .i64 t622]] ?_
      with_reducible refine (spec_TwoMul.calls t619 t620 t621 t622 t623 t624 _ A23.out).mono ?_
      rintro e w35 ⟨rfl, hb⟩
      refine ⟨_, rfl, ?_⟩
      replace BK614 := bB BK614 hb
      replace BK615 := bB BK615 hb
      replace BK616 := bB BK616 hb
      replace BK617 := bB BK617 hb
      replace BK618 := bB BK618 hb
      replace HB := bS HB hb
      (try clear hb)
      refine hK.out _ _ (bS2 BK617 (bS3 BK618 (bT3 BK615))) (fun hHeld => ?_)
      clear hK K
      refine nO (some 21) ?_
      refine last_ (i := 8) (N := none) #[true, true, true, true, true, true, true, true, true] rfl rfl (one_of HT_.out (by kernel_rfl)) (by decide) (fun K hK => ?_)
      have hs36 : w35.cell? ⟨gb617, 0, none⟩ = some (.int .i64 x618000_1) := bc BK617 0
      have hfs36 := blk_frozen BK617.out 0
      have hns36_0 := NB614_617.out
      have hns36_1 := NB615_617.out
      have hns36_2 := NB616_617.out
      have hns36_4 := NB618_617.out
      have hms36_0 := NB617_614.out
      have hms36_1 := NB617_615.out
      have hms36_2 := NB617_616.out
      have hms36_4 := NB617_618.out
      have hs37 : w35.cell? ⟨gb617, 1, none⟩ = some (.int .i64 x618001_1) := bc BK617 1
      have hfs37 := blk_frozen BK617.out 1
      have hns37_0 := NB614_617.out
      have hns37_1 := NB615_617.out
      have hns37_2 := NB616_617.out
      have hns37_4 := NB618_617.out
      have hms37_0 := NB617_614.out
      have hms37_1 := NB617_615.out
      have hms37_2 := NB617_616.out
      have hms37_4 := NB617_618.out
      refine skip_ (w1 := ?_) (by rfl) rfl ?_ ?_
      rotate_left
      ·go_simp
       rfl
      refine hK.out _ _ ?_
      clear hK K
      refine done_ (done_of HT_.out (by kernel_rfl)) ?_
      obtain ⟨hnb38, hnc38⟩ := nB NB618_614
      obtain ⟨hnb39, hnc39⟩ := nB NB618_615
      obtain ⟨hnb40, hnc40⟩ := nB NB618_616
      obtain ⟨hnb41, hnc41⟩ := nB NB618_617
      obtain ⟨hcz42_0, hcz42_1, hcz42_2, hfz42_0, hfz42_1, hfz42_2⟩ := bK3 (w := w35) BK618
      try go_wp2_with (first | (refine gC (some 24) Tryz.func92 #[.agg #[.int .i64 x619000_1, .int .i64 x619001_1, .bool x619002_1], .agg #[.int .i64 x619000_1, .int .i64 x619001_1, .bool x619002_1]] ?_; (with_reducible refine (spec_PointAdd.calls k1 x619000_1 x619001_1 x619002_1 x619000_1 x619001_1 x619002_1 t625 t626 t627 _ A24.out).mono ?_); rintro e w43 ⟨rfl, hb⟩; refine ⟨_, rfl, ?_⟩; replace BK614 := bB BK614 hb; replace BK615 := bB BK615 hb; replace BK616 := bB BK616 hb; replace BK617 := bV 75 #[.int .i64 t623, .int .i64 t624] BK617 hb; replace BK618 := bB BK618 hb; replace HB := bS HB hb; (try clear hb); obtain ⟨hcz44_0, hcz44_1, hcz44_2, hfz44_0, hfz44_1, hfz44_2⟩ := bK3 (w := w43) BK618))
      obtain ⟨w45, hW_⟩ : ∃ W_ : World, W_ = (((w43.setCell ⟨gb618, 0, none⟩ (.int .i64 t625)).setCell ⟨gb618, 1, none⟩ (.int .i64 t626)).setCell ⟨gb618, 2, none⟩ (.bool t627)) := ⟨_, rfl⟩
      replace BK614 := bW hW_ BK614
      replace BK615 := bW hW_ BK615
      replace BK616 := bW hW_ BK616
      replace BK617 := bW hW_ BK617
      replace BK618 := bX hW_ 28 #[.int .i64 t625, .int .i64 t626, .bool t627] BK618
      replace HB := zW hW_ HB
      rw [← hW_]
      clear hW_
      replace BK614 := Aside0.mk (blk_drew BK614.out)
      replace BK615 := Aside0.mk (blk_drew BK615.out)
      replace BK616 := Aside0.mk (blk_drew BK616.out)
      replace BK617 := Aside0.mk (blk_drew BK617.out)
      replace BK618 := Aside0.mk (blk_drew BK618.out)
      replace HB := Aside0.mk (below_drew1 HB.out)
      refine start_ (n := 7) (S := fun w' => SP2 w' gb617 (.int .i64 t623) (.int .i64 t624) (SP3 w' gb618 (.int .i64 t625) (.int .i64 t626) (.bool t627) (SP3 w' gb614 (.int .i64 a0_0) (.int .i64 a0_1) (.bool a0_2) (SQ3 w' gb615 (.int .i64 a1_0) (.int .i64 a1_1) (.bool a1_2))))) (ds := [6]) #[false, false, false, false, false, false, false] (by kernel_rfl) rfl rfl (bS2 BK617 (bS3 BK618 (bS3 BK614 (bT3 BK615)))) (fun hHeld => ?_)
      generalize w45.drew = w46 at BK614 BK615 BK616 BK617 BK618 HB hHeld ⊢
      refine tJ 0 (some 30) hHeld ?_
      refine tJ 1 (some 31) hHeld ?_
      refine tJ 2 (some 32) hHeld ?_
      refine tJ 3 (some 33) hHeld ?_
      refine one_ (i := 4) (N := some 34) #[true, true, true, true, true, false, false] rfl rfl (by kernel_rfl) (by decide) (fun K hK => ?_)
      refine gO Tryz.func141 #[.agg #[.int .i64 t625, .int .i64 t626, .bool t627], .agg #[.int .i64 a0_0, .int .i64 a0_1, .bool a0_2], .agg #[.int .i64 a1_0, .int .i64 a1_1, .bool a1_2]] ?_
      with_reducible refine (spec_PairLine.calls k1 t625 t626 t627 a0_0 a0_1 a0_2 a1_0 a1_1 a1_2 t628 t629 _ A29.out).mono ?_
      rintro e w47 ⟨rfl, hb⟩
      refine ⟨_, rfl, ?_⟩
      replace BK614 := bB BK614 hb
      replace BK615 := bB BK615 hb
      replace BK616 := bB BK616 hb
      replace BK617 := bB BK617 hb
      replace BK618 := bB BK618 hb
      replace HB := bS HB hb
      (try clear hb)
      refine hK.out _ _ (bS2 BK617 (bS3 BK618 (bS3 BK614 (bT3 BK615)))) (fun hHeld => ?_)
      clear hK K
      refine nO (some 34) ?_
      refine one_ (i := 5) (N := some 35) #[true, true, true, true, true, true, false] rfl rfl (by kernel_rfl) (by decide) (fun K hK => ?_)
      refine gO Tryz.func120 #[.agg #[.int .i64 t623, .int .i64 t624], .agg #[.int .i64 t628, .int .i64 t629]] ?_
      with_reducible refine (spec_TwoMul.calls t623 t624 t628 t629 t630 t631 _ A30.out).mono ?_
      rintro e w48 ⟨rfl, hb⟩
      refine ⟨_, rfl, ?_⟩
      replace BK614 := bB BK614 hb
      replace BK615 := bB BK615 hb
      replace BK616 := bB BK616 hb
      replace BK617 := bB BK617 hb
      replace BK618 := bB BK618 hb
      replace HB := bS HB hb
      (try clear hb)
      refine hK.out _ _ (bS2 BK617 (bS3 BK618 (bS3 BK614 (bT3 BK615)))) (fun hHeld => ?_)
      clear hK K
      refine nO (some 35) ?_
      refine last_ (i := 6) (N := none) #[true, true, true, true, true, true, true] rfl rfl (by kernel_rfl) (by decide) (fun K hK => ?_)
      have hs49 : w48.cell? ⟨gb617, 0, none⟩ = some (.int .i64 t623) := bc BK617 0
      have hfs49 := blk_frozen BK617.out 0
      have hns49_0 := NB614_617.out
      have hns49_1 := NB615_617.out
      have hns49_2 := NB616_617.out
      have hns49_4 := NB618_617.out
      have hms49_0 := NB617_614.out
      have hms49_1 := NB617_615.out
      have hms49_2 := NB617_616.out
      have hms49_4 := NB617_618.out
      have hs50 : w48.cell? ⟨gb617, 1, none⟩ = some (.int .i64 t624) := bc BK617 1
      have hfs50 := blk_frozen BK617.out 1
      have hns50_0 := NB614_617.out
      have hns50_1 := NB615_617.out
      have hns50_2 := NB616_617.out
      have hns50_4 := NB618_617.out
      have hms50_0 := NB617_614.out
      have hms50_1 := NB617_615.out
      have hms50_2 := NB617_616.out
      have hms50_4 := NB617_618.out
      refine skip_ (w1 := ?_) (by rfl) rfl ?_ ?_
      rotate_left
      ·go_simp
       rfl
      refine hK.out _ _ ?_
      clear hK K
      refine done_ (by kernel_rfl) ?_
      obtain ⟨hcz51_0, hcz51_1, hcz51_2, hfz51_0, hfz51_1, hfz51_2⟩ := bK3 (w := w48) BK618
      obtain ⟨hnb52, hnc52⟩ := nB NB614_615
      obtain ⟨hnb53, hnc53⟩ := nB NB614_616
      obtain ⟨hnb54, hnc54⟩ := nB NB614_617
      obtain ⟨hcz55_0, hcz55_1, hcz55_2, hfz55_0, hfz55_1, hfz55_2⟩ := bK3 (w := w48) BK614
      try go_wp2_with (first | (refine gC (some 38) Tryz.func92 #[.agg #[.int .i64 t625, .int .i64 t626, .bool t627], .agg #[.int .i64 a0_0, .int .i64 a0_1, .bool a0_2]] ?_; (with_reducible refine (spec_PointAdd.calls k1 t625 t626 t627 a0_0 a0_1 a0_2 t632 t633 t634 _ A31.out).mono ?_); rintro e w56 ⟨rfl, hb⟩; refine ⟨_, rfl, ?_⟩; replace BK614 := bB BK614 hb; replace BK615 := bB BK615 hb; replace BK616 := bB BK616 hb; replace BK617 := bV 75 #[.int .i64 t630, .int .i64 t631] BK617 hb; replace BK618 := bB BK618 hb; replace HB := bS HB hb; (try clear hb); obtain ⟨hcz57_0, hcz57_1, hcz57_2, hfz57_0, hfz57_1, hfz57_2⟩ := bK3 (w := w56) BK618))
      go_roundg k1
      case measure => have := HK1.out; omega
      case rel => exact ⟨(wrap64 (x7_1 - 1)), (t630), (t631), (t632), (t633), (t634), rS, H', ⟨by have := HK1.out; omega⟩, ⟨bP BK614⟩, ⟨bP BK615⟩, ⟨bP BK616⟩, ⟨bP BK617⟩, ⟨bU BK618⟩, ⟨bZ HB⟩⟩
     ·rw [if_neg c28] at H
      have c28b0 : (((ji27) % 2) == 1) = false := beq_eq_false_iff_ne.mpr c28
      have c28b1 : (((ji27) % 2) != 1) = true := bne_iff_ne.mpr c28
      have H' := Aside0.mk H
      clear H
      try go_wp2
      replace BK614 := Aside0.mk (blk_drew BK614.out)
      replace BK615 := Aside0.mk (blk_drew BK615.out)
      replace BK616 := Aside0.mk (blk_drew BK616.out)
      replace BK617 := Aside0.mk (blk_drew BK617.out)
      replace BK618 := Aside0.mk (blk_drew BK618.out)
      replace HB := Aside0.mk (below_drew1 HB.out)
      refine start_ (n := 9) (S := fun w' => SP2 w' gb617 (.int .i64 x618000_1) (.int .i64 x618001_1) (SP3 w' gb618 (.int .i64 x619000_1) (.int .i64 x619001_1) (.bool x619002_1) (SQ3 w' gb615 (.int .i64 a1_0) (.int .i64 a1_1) (.bool a1_2)))) (ds := [8]) #[false, false, false, false, false, false, false, false, false] (by kernel_rfl) rfl rfl (bS2 BK617 (bS3 BK618 (bT3 BK615))) (fun hHeld => ?_); refine with_tabW spec_Miller.tab6 spec_Miller.bits6 (fun HT_ HW_ => ?_)
      generalize wr.drew = w58 at BK614 BK615 BK616 BK617 BK618 HB hHeld ⊢
      refine tI8 0 (some 14) HT_.out HW_.out hHeld ?_
      refine tI8 1 (some 15) HT_.out HW_.out hHeld ?_
      refine tI8 3 (some 17) HT_.out HW_.out hHeld ?_
      refine tI8 4 (some 18) HT_.out HW_.out hHeld ?_
      refine tI8 5 (some 19) HT_.out HW_.out hHeld ?_
      refine oI 2 (some 16) HT_.out (fun K hK => ?_)
      refine gO Tryz.func120 #[.agg #[.int .i64 x618000_1, .int .i64 x618001_1], .agg #[.int .i64 x618000_1, .int .i64 x618001_1]] ?_
      with_reducible refine (spec_TwoMul.calls x618000_1 x618001_1 x618000_1 x618001_1 t619 t620 _ A21.out).mono ?_
      rintro e w59 ⟨rfl, hb⟩
      refine ⟨_, rfl, ?_⟩
      replace BK614 := bB BK614 hb
      replace BK615 := bB BK615 hb
      replace BK616 := bB BK616 hb
      replace BK617 := bB BK617 hb
      replace BK618 := bB BK618 hb
      replace HB := bS HB hb
      (try clear hb)
      refine hK.out _ _ (bS2 BK617 (bS3 BK618 (bT3 BK615))) (fun hHeld => ?_)
      clear hK K
      refine nO (some 16) ?_
      refine oI 6 (some 20) HT_.out (fun K hK => ?_)
      refine gO Tryz.func141 #[.agg #[.int .i64 x619000_1, .int .i64 x619001_1, .bool x619002_1], .agg #[.int .i64 x619000_1, .int .i64 x619001_1, .bool x619002_1], .agg #[.int .i64 a1_0, .int .i64 a1_1, .bool a1_2]] ?_
      with_reducible refine (spec_PairLine.calls k1 x619000_1 x619001_1 x619002_1 x619000_1 x619001_1 x619002_1 a1_0 a1_1 a1_2 t621 t622 _ A22.out).mono ?_
      rintro e w60 ⟨rfl, hb⟩
      refine ⟨_, rfl, ?_⟩
      replace BK614 := bB BK614 hb
      replace BK615 := bB BK615 hb
      replace BK616 := bB BK616 hb
      replace BK617 := bB BK617 hb
      replace BK618 := bB BK618 hb
      replace HB := bS HB hb
      (try clear hb)
      refine hK.out _ _ (bS2 BK617 (bS3 BK618 (bT3 BK615))) (fun hHeld => ?_)
      clear hK K
      refine nO (some 20) ?_
      refine oI 7 (some 21) HT_.out (fun K hK => ?_)
      refine gO Tryz.func120 #[.agg #[.int .i64 t619, .int .i64 t620], .agg #[.int .i64 t621, .int .i64 t622]] ?_
      with_reducible refine (spec_TwoMul.calls t619 t620 t621 t622 t623 t624 _ A23.out).mono ?_
      rintro e w61 ⟨rfl, hb⟩
      refine ⟨_, rfl, ?_⟩
      replace BK614 := bB BK614 hb
      replace BK615 := bB BK615 hb
      replace BK616 := bB BK616 hb
      replace BK617 := bB BK617 hb
      replace BK618 := bB BK618 hb
      replace HB := bS HB hb
      (try clear hb)
      refine hK.out _ _ (bS2 BK617 (bS3 BK618 (bT3 BK615))) (fun hHeld => ?_)
      clear hK K
      refine nO (some 21) ?_
      refine last_ (i := 8) (N := none) #[true, true, true, true, true, true, true, true, true] rfl rfl (one_of HT_.out (by kernel_rfl)) (by decide) (fun K hK => ?_)
      have hs62 : w61.cell? ⟨gb617, 0, none⟩ = some (.int .i64 x618000_1) := bc BK617 0
      have hfs62 := blk_frozen BK617.out 0
      have hns62_0 := NB614_617.out
      have hns62_1 := NB615_617.out
      have hns62_2 := NB616_617.out
      have hns62_4 := NB618_617.out
      have hms62_0 := NB617_614.out
      have hms62_1 := NB617_615.out
      have hms62_2 := NB617_616.out
      have hms62_4 := NB617_618.out
      have hs63 : w61.cell? ⟨gb617, 1, none⟩ = some (.int .i64 x618001_1) := bc BK617 1
      have hfs63 := blk_frozen BK617.out 1
      have hns63_0 := NB614_617.out
      have hns63_1 := NB615_617.out
      have hns63_2 := NB616_617.out
      have hns63_4 := NB618_617.out
      have hms63_0 := NB617_614.out
      have hms63_1 := NB617_615.out
      have hms63_2 := NB617_616.out
      have hms63_4 := NB617_618.out
      refine skip_ (w1 := ?_) (by rfl) rfl ?_ ?_
      rotate_left
      ·go_simp
       rfl
      refine hK.out _ _ ?_
      clear hK K
      refine done_ (done_of HT_.out (by kernel_rfl)) ?_
      obtain ⟨hnb64, hnc64⟩ := nB NB618_614
      obtain ⟨hnb65, hnc65⟩ := nB NB618_615
      obtain ⟨hnb66, hnc66⟩ := nB NB618_616
      obtain ⟨hnb67, hnc67⟩ := nB NB618_617
      obtain ⟨hcz68_0, hcz68_1, hcz68_2, hfz68_0, hfz68_1, hfz68_2⟩ := bK3 (w := w61) BK618
      try go_wp2_with (first | (refine gC (some 24) Tryz.func92 #[.agg #[.int .i64 x619000_1, .int .i64 x619001_1, .bool x619002_1], .agg #[.int .i64 x619000_1, .int .i64 x619001_1, .bool x619002_1]] ?_; (with_reducible refine (spec_PointAdd.calls k1 x619000_1 x619001_1 x619002_1 x619000_1 x619001_1 x619002_1 t625 t626 t627 _ A24.out).mono ?_); rintro e w69 ⟨rfl, hb⟩; refine ⟨_, rfl, ?_⟩; replace BK614 := bB BK614 hb; replace BK615 := bB BK615 hb; replace BK616 := bB BK616 hb; replace BK617 := bV 75 #[.int .i64 t623, .int .i64 t624] BK617 hb; replace BK618 := bB BK618 hb; replace HB := bS HB hb; (try clear hb); obtain ⟨hcz70_0, hcz70_1, hcz70_2, hfz70_0, hfz70_1, hfz70_2⟩ := bK3 (w := w69) BK618))
      go_roundg k1
      case measure => have := HK1.out; omega
      case rel => exact ⟨(wrap64 (x7_1 - 1)), (t623), (t624), (t625), (t626), (t627), rS, H', ⟨by have := HK1.out; omega⟩, ⟨bP BK614⟩, ⟨bP BK615⟩, ⟨bP BK616⟩, ⟨bP BK617⟩, ⟨bU BK618⟩, ⟨bZ HB⟩⟩
    ·rw [if_neg c26] at H
     exact absurd H (by simp)
   ·rw [if_neg c20] at H
    have c20b0 := decide_eq_false c20
    clear c20
    simp only [Option.some.injEq, Prod.mk.injEq] at H
    obtain ⟨rfl, rfl⟩ := H
    obtain ⟨hnb71, hnc71⟩ := nB NB617_614
    obtain ⟨hnb72, hnc72⟩ := nB NB617_615
    obtain ⟨hnb73, hnc73⟩ := nB NB617_616
    obtain ⟨hnb74, hnc74⟩ := nB NB617_618
    obtain ⟨hcz75_0, hcz75_1, hfz75_0, hfz75_1⟩ := bK2 (w := wr) BK617
    obtain ⟨hnb76, hnc76⟩ := nB NB616_614
    obtain ⟨hnb77, hnc77⟩ := nB NB616_615
    obtain ⟨hnb78, hnc78⟩ := nB NB616_618
    obtain ⟨hcz79_0, hcz79_1, hfz79_0, hfz79_1⟩ := bK2 (w := wr) BK616
    go_wp2
    refine rC gb616 75 #[.int .i64 x618000_1, .int .i64 x618001_1] (bU BK616) Tryz.underlying75 ?_
    exact ⟨rR, bZ HB⟩
def spec_TwoPow.l0 : Nat → Int → Int → Int → Int → Int → Option (Int × Int)
 | 0, _, _, _, _, _ => none
 | k + 1, x1, x638000, x638001, x641000, x641001 => if x1 > 0 then (if (Int.tmod x1 2) = 1 then ((spec_TwoMul.f x638000 x638001 x641000 x641001).bind fun bt641 => ((spec_TwoMul.f x641000 x641001 x641000 x641001).bind fun bt643 => (spec_TwoPow.l0 k (wrap64 (Int.tdiv x1 2)) bt641.1 bt641.2 bt643.1 bt643.2))) else ((spec_TwoMul.f x641000 x641001 x641000 x641001).bind fun bt645 => (spec_TwoPow.l0 k (wrap64 (Int.tdiv x1 2)) x638000 x638001 bt645.1 bt645.2))) else (some (x638000, x638001))
def spec_TwoPow.f (k : Nat) (a0_0 : Int) (a0_1 : Int) (a1 : Int) : Option (Int × Int) := if a1 < 0 then (some (0, 0)) else ((spec_FpOf.f a0_0).bind fun t638 => ((spec_FpOf.f a0_1).bind fun t639 => (spec_TwoPow.l0 k a1 1 0 t638 t639)))
def spec_TwoPow.T4 : Bool × List (List Nat × List Nat) := (true, [([], []), ([0], [0]), ([1], [1]), ([], []), ([3], [3]), ([4, 2], [4]), ([2, 5], [2, 5]), ([], []), ([7, 6, 5, 0, 1, 2, 3, 4, 5, 6, 7], [6, 7])])
def spec_TwoPow.B4 : List Nat := [0, 1, 3, 0, 8, 31, 63, 0, 255]
theorem spec_TwoPow.tab4 : rtab .any (opsOf Tryz.f119 4) = spec_TwoPow.T4 := by kernel_rfl
theorem spec_TwoPow.bits4 : waitsOk spec_TwoPow.T4.2 spec_TwoPow.B4 = true := by kernel_rfl
set_option maxHeartbeats 8000000 in
set_option maxRecDepth 100000 in
theorem spec_TwoPow.calls (k : Nat) (a0_0 : Int) (a0_1 : Int) (a1 : Int) (r1 : Int) (r2 : Int) (w : World) (h : spec_TwoPow.f k a0_0 a0_1 a1 = some (r1, r2)) :
  Calls Tryz.prog 119 #[.agg #[.int .i64 a0_0, .int .i64 a0_1], .int .i64 a1] w fun e w' => e = .returned (.agg #[.int .i64 r1, .int .i64 r2]) ∧ Below w.heap.size w w' := by
 have hu75 := Tryz.underlying75
 have HB := Aside0.mk (Below.refl w.heap.size w)
 have H : (if a1 < 0 then (some (0, 0)) else ((spec_FpOf.f a0_0).bind fun t638 => ((spec_FpOf.f a0_1).bind fun t639 => (spec_TwoPow.l0 k a1 1 0 t638 t639)))) = some (r1, r2) := h
 clear h
 by_cases c3 : a1 < 0
 ·rw [if_pos c3] at H
  have c3b0 := decide_eq_true c3
  clear c3
  simp only [Option.some.injEq, Prod.mk.injEq] at H
  obtain ⟨rfl, rfl⟩ := H
  go_enter Tryz.func119, Tryz.ntmps119
  go_wp2_with (first | (refine gB 2 #[.int .i64 a0_0, .int .i64 a0_1] 75 ?_; intro gb635 hg w4 BK635 hb; have GW635 := bG HB hg; replace HB := bS HB hb; clear hb hg) | (refine gB 4 #[.int .i64 0, .int .i64 0] 75 ?_; intro gb636 hg w5 BK636 hb; have GW636 := bG HB hg; replace HB := bS HB hb; obtain ⟨NB635_636, NB636_635⟩ := bN BK635 hg; replace BK635 := bB BK635 hb; clear hb hg; obtain ⟨hnb6, hnc6⟩ := nB NB636_635; obtain ⟨hcz7_0, hcz7_1, hfz7_0, hfz7_1⟩ := bK2 (w := w5) BK636))
  refine rC gb636 75 #[.int .i64 0, .int .i64 0] (bU BK636) Tryz.underlying75 ?_
  exact ⟨rR, bZ HB⟩
 ·rw [if_neg c3] at H
  have c3b0 := decide_eq_false c3
  clear c3
  replace H := Option.bind_eq_some_iff.mp H
  obtain ⟨t638, A80, H⟩ := H
  have A8 := Aside0.mk A80
  clear A80
  replace H := Option.bind_eq_some_iff.mp H
  obtain ⟨t639, A90, H⟩ := H
  have A9 := Aside0.mk A90
  clear A90
  have H' := Aside0.mk H
  clear H
  go_enter Tryz.func119, Tryz.ntmps119
  try go_wp2_with (first | (refine gB 2 #[.int .i64 a0_0, .int .i64 a0_1] 75 ?_; intro gb635 hg w10 BK635 hb; have GW635 := bG HB hg; replace HB := bS HB hb; clear hb hg) | (refine gB 4 #[.int .i64 0, .int .i64 0] 75 ?_; intro gb636 hg w11 BK636 hb; have GW636 := bG HB hg; replace HB := bS HB hb; obtain ⟨NB635_636, NB636_635⟩ := bN BK635 hg; replace BK635 := bB BK635 hb; clear hb hg) | (refine gB 5 #[.int .i64 0, .int .i64 0] 75 ?_; intro gb637 hg w12 BK637 hb; have GW637 := bG HB hg; replace HB := bS HB hb; obtain ⟨NB635_637, NB637_635⟩ := bN BK635 hg; replace BK635 := bB BK635 hb; obtain ⟨NB636_637, NB637_636⟩ := bN BK636 hg; replace BK636 := bB BK636 hb; clear hb hg; obtain ⟨hnb13, hnc13⟩ := nB NB637_635; obtain ⟨hnb14, hnc14⟩ := nB NB637_636; obtain ⟨hcz15_0, hcz15_1, hfz15_0, hfz15_1⟩ := bK2 (w := w12) BK637))
  obtain ⟨w16, hW_⟩ : ∃ W_ : World, W_ = ((w12.setCell ⟨gb637, 0, none⟩ (.int .i64 1)).setCell ⟨gb637, 1, none⟩ (.int .i64 0)) := ⟨_, rfl⟩
  replace BK635 := bW hW_ BK635
  replace BK636 := bW hW_ BK636
  replace BK637 := bX hW_ 75 #[.int .i64 1, .int .i64 0] BK637
  replace HB := zW hW_ HB
  rw [← hW_]
  clear hW_
  replace BK635 := Aside0.mk (blk_drew BK635.out)
  replace BK636 := Aside0.mk (blk_drew BK636.out)
  replace BK637 := Aside0.mk (blk_drew BK637.out)
  replace HB := Aside0.mk (below_drew1 HB.out)
  refine start_ (n := 9) (S := fun w' => SQ2 w' gb635 (.int .i64 a0_0) (.int .i64 a0_1)) (ds := []) #[false, false, false, false, false, false, false, false, false] (by kernel_rfl) rfl rfl (bT2 BK635) (fun hHeld => ?_); refine with_tabW spec_TwoPow.tab4 spec_TwoPow.bits4 (fun HT_ HW_ => ?_)
  generalize w16.drew = w17 at BK635 BK636 BK637 HB hHeld ⊢
  refine pI 0 (some 11) HT_.out ?_
  refine pI 3 (some 14) HT_.out ?_
  refine tI2 1 (some 12) HT_.out HW_.out hHeld ?_
  refine tI2 4 (some 15) HT_.out HW_.out hHeld ?_
  refine join_ (σ := Nat) 1 #[true, true, true, true, true, true, true, true, false] (fun s_ => [(13, .int .i64 t638), (16, .int .i64 t639), (6, .pointer (some ⟨s_, 0, none⟩)), (17, .agg #[.int .i64 t638, .int .i64 t639])]) (fun s_ w' => (w'.cell? ⟨gb635, 0, none⟩ = some (.int .i64 a0_0) ∧ w'.cell? ⟨gb635, 1, none⟩ = some (.int .i64 a0_1)) ∧ (w'.heap[gb635]? = some (.cells #[.int .i64 a0_0, .int .i64 a0_1] 75 (0, 0))) ∧ (w'.heap[gb636]? = some (.cells #[.int .i64 0, .int .i64 0] 75 (0, 0))) ∧ (w'.heap[gb637]? = some (.cells #[.int .i64 1, .int .i64 0] 75 (0, 0))) ∧ (w'.heap[s_]? = some (.cells #[.int .i64 0, .int .i64 0] 75 (0, 0))) ∧ (w.heap.size ≤ s_) ∧ (w.heap.size ≤ s_) ∧ (gb635 ≠ s_) ∧ (s_ ≠ gb635) ∧ (gb636 ≠ s_) ∧ (s_ ≠ gb636) ∧ (gb637 ≠ s_) ∧ (s_ ≠ gb637) ∧ (Below w.heap.size w w')) ?_ ?_
  rotate_left
  ·intro hCont
   refine two_ (i := 2) (j := 7) (Ni := some 13) (Nj := some 6) #[true, true, true, true, true, false, false, false, false] #[true, true, false, true, true, false, false, true, false] rfl rfl rfl rfl (two_of HT_.out (by kernel_rfl)) (by decide) (by decide) (fun K hK => ?_) (fun K hK => ?_)
   ·skip
    refine gO Tryz.func62 #[.int .i64 a0_0] ?_
    with_reducible refine (spec_FpOf.calls a0_0 t638 _ A8.out).mono ?_
    rintro e w' ⟨rfl, ⟨nd, rfl⟩⟩
    refine ⟨_, rfl, ?_⟩
    refine hK.out _ _ (bT2 BK635) (fun hHeld => ?_)
    clear hK K
    refine nO (some 13) ?_
    refine two_ (i := 5) (j := 7) (Ni := some 16) (Nj := some 6) #[true, true, true, true, true, true, false, false, false] #[true, true, true, true, true, false, false, true, false] rfl rfl rfl rfl (two_of HT_.out (by kernel_rfl)) (by decide) (by decide) (fun K hK => ?_) (fun K hK => ?_)
    ·skip
     refine gO Tryz.func62 #[.int .i64 a0_1] ?_
     with_reducible refine (spec_FpOf.calls a0_1 t639 _ A9.out).mono ?_
     rintro e w' ⟨rfl, ⟨nd, rfl⟩⟩
     refine ⟨_, rfl, ?_⟩
     refine hK.out _ _ (bT2 BK635) (fun hHeld => ?_)
     clear hK K
     refine nO (some 16) ?_
     refine pI 6 (some 17) HT_.out ?_
     refine oI 7 (some 6) HT_.out (fun K hK => ?_)
     refine box_step ?hg (N := 6) ?hd (cs := #[.int .i64 0, .int .i64 0]) (t := 75) ?hr ?_; (case hd => rfl); (case hg => rfl); (case hr => first | (go_simp; done) | (go_simp; rfl))
     intro gb640 hg w18 hbox hb
     have BK640 := Aside0.mk (hbox)
     have GW640 := bG HB hg
     have GE640 := bG HB hg
     replace HB := bS HB hb
     have NB635_640 := bL BK635 hg
     have NB640_635 := bR BK635 hg
     replace BK635 := bB BK635 hb
     have NB636_640 := bL BK636 hg
     have NB640_636 := bR BK636 hg
     replace BK636 := bB BK636 hb
     have NB637_640 := bL BK637 hg
     have NB640_637 := bR BK637 hg
     replace BK637 := bB BK637 hb
     clear hb hbox hg
     refine hK.out _ _ (bT2 BK635) (fun hHeld => ?_)
     clear hK K
     refine nO (some 6) ?_
     exact norm_ (by simp only [putAll, Act.put, List.setIfInBounds_toArray, List.set_cons_zero, List.set_cons_succ]) (hCont (gb640) _ ⟨hHeld, (bP BK635), (bP BK636), (bP BK637), (bP BK640), GW640.out, GE640.out, NB635_640.out, NB640_635.out, NB636_640.out, NB640_636.out, NB637_640.out, NB640_637.out, (bZ HB)⟩)
    ·skip
     refine box_step ?hg (N := 6) ?hd (cs := #[.int .i64 0, .int .i64 0]) (t := 75) ?hr ?_; (case hd => rfl); (case hg => rfl); (case hr => first | (go_simp; done) | (go_simp; rfl))
     intro gb640 hg w18 hbox hb
     have BK640 := Aside0.mk (hbox)
     have GW640 := bG HB hg
     have GE640 := bG HB hg
     replace HB := bS HB hb
     have NB635_640 := bL BK635 hg
     have NB640_635 := bR BK635 hg
     replace BK635 := bB BK635 hb
     have NB636_640 := bL BK636 hg
     have NB640_636 := bR BK636 hg
     replace BK636 := bB BK636 hb
     have NB637_640 := bL BK637 hg
     have NB640_637 := bR BK637 hg
     replace BK637 := bB BK637 hb
     clear hb hbox hg
     refine hK.out _ _ (bT2 BK635) (fun hHeld => ?_)
     clear hK K
     refine nO (some 6) ?_
     refine oI 5 (some 16) HT_.out (fun K hK => ?_)
     refine gO Tryz.func62 #[.int .i64 a0_1] ?_
     with_reducible refine (spec_FpOf.calls a0_1 t639 _ A9.out).mono ?_
     rintro e w' ⟨rfl, ⟨nd, rfl⟩⟩
     refine ⟨_, rfl, ?_⟩
     refine hK.out _ _ (bT2 BK635) (fun hHeld => ?_)
     clear hK K
     refine nO (some 16) ?_
     refine pI 6 (some 17) HT_.out ?_
     exact norm_ (by simp only [putAll, Act.put, List.setIfInBounds_toArray, List.set_cons_zero, List.set_cons_succ]) (hCont (gb640) _ ⟨hHeld, (bP BK635), (bP BK636), (bP BK637), (bP BK640), GW640.out, GE640.out, NB635_640.out, NB640_635.out, NB636_640.out, NB640_636.out, NB637_640.out, NB640_637.out, (bZ HB)⟩)
   ·skip
    refine box_step ?hg (N := 6) ?hd (cs := #[.int .i64 0, .int .i64 0]) (t := 75) ?hr ?_; (case hd => rfl); (case hg => rfl); (case hr => first | (go_simp; done) | (go_simp; rfl))
    intro gb640 hg w18 hbox hb
    have BK640 := Aside0.mk (hbox)
    have GW640 := bG HB hg
    have GE640 := bG HB hg
    replace HB := bS HB hb
    have NB635_640 := bL BK635 hg
    have NB640_635 := bR BK635 hg
    replace BK635 := bB BK635 hb
    have NB636_640 := bL BK636 hg
    have NB640_636 := bR BK636 hg
    replace BK636 := bB BK636 hb
    have NB637_640 := bL BK637 hg
    have NB640_637 := bR BK637 hg
    replace BK637 := bB BK637 hb
    clear hb hbox hg
    refine hK.out _ _ (bT2 BK635) (fun hHeld => ?_)
    clear hK K
    refine nO (some 6) ?_
    refine oI 2 (some 13) HT_.out (fun K hK => ?_)
    refine gO Tryz.func62 #[.int .i64 a0_0] ?_
    with_reducible refine (spec_FpOf.calls a0_0 t638 _ A8.out).mono ?_
    rintro e w' ⟨rfl, ⟨nd, rfl⟩⟩
    refine ⟨_, rfl, ?_⟩
    refine hK.out _ _ (bT2 BK635) (fun hHeld => ?_)
    clear hK K
    refine nO (some 13) ?_
    refine oI 5 (some 16) HT_.out (fun K hK => ?_)
    refine gO Tryz.func62 #[.int .i64 a0_1] ?_
    with_reducible refine (spec_FpOf.calls a0_1 t639 _ A9.out).mono ?_
    rintro e w' ⟨rfl, ⟨nd, rfl⟩⟩
    refine ⟨_, rfl, ?_⟩
    refine hK.out _ _ (bT2 BK635) (fun hHeld => ?_)
    clear hK K
    refine nO (some 16) ?_
    refine pI 6 (some 17) HT_.out ?_
    exact norm_ (by simp only [putAll, Act.put, List.setIfInBounds_toArray, List.set_cons_zero, List.set_cons_succ]) (hCont (gb640) _ ⟨hHeld, (bP BK635), (bP BK636), (bP BK637), (bP BK640), GW640.out, GE640.out, NB635_640.out, NB640_635.out, NB636_640.out, NB640_636.out, NB637_640.out, NB640_637.out, (bZ HB)⟩)
  rintro gb640 w19 ⟨hS_, h0_, h1_, h2_, h3_, h4_, h5_, h6_, h7_, h8_, h9_, h10_, h11_, h12_⟩
  replace BK635 : Aside0 (w19.heap[gb635]? = some (.cells #[.int .i64 a0_0, .int .i64 a0_1] 75 (0, 0))) := ⟨h0_⟩
  replace BK636 : Aside0 (w19.heap[gb636]? = some (.cells #[.int .i64 0, .int .i64 0] 75 (0, 0))) := ⟨h1_⟩
  replace BK637 : Aside0 (w19.heap[gb637]? = some (.cells #[.int .i64 1, .int .i64 0] 75 (0, 0))) := ⟨h2_⟩
  have BK640 : Aside0 (w19.heap[gb640]? = some (.cells #[.int .i64 0, .int .i64 0] 75 (0, 0))) := ⟨h3_⟩
  have GW640 : Aside0 (w.heap.size ≤ gb640) := ⟨h4_⟩
  have GE640 : Aside0 (w.heap.size ≤ gb640) := ⟨h5_⟩
  have NB635_640 : Aside0 (gb635 ≠ gb640) := ⟨h6_⟩
  have NB640_635 : Aside0 (gb640 ≠ gb635) := ⟨h7_⟩
  have NB636_640 : Aside0 (gb636 ≠ gb640) := ⟨h8_⟩
  have NB640_636 : Aside0 (gb640 ≠ gb636) := ⟨h9_⟩
  have NB637_640 : Aside0 (gb637 ≠ gb640) := ⟨h10_⟩
  have NB640_637 : Aside0 (gb640 ≠ gb637) := ⟨h11_⟩
  replace HB : Aside0 (Below w.heap.size w w19) := ⟨h12_⟩
  clear h0_ h1_ h2_ h3_ h4_ h5_ h6_ h7_ h8_ h9_ h10_ h11_ h12_
  have hHeld : w19.cell? ⟨gb635, 0, none⟩ = some (.int .i64 a0_0) ∧ w19.cell? ⟨gb635, 1, none⟩ = some (.int .i64 a0_1) := hS_
  refine norm_ (a' := ?_) ?_ ?_
  rotate_left
  ·simp only [putAll, Act.put, List.setIfInBounds_toArray, List.set_cons_zero, List.set_cons_succ]
   rfl
  refine oI 8 (none) HT_.out (fun K hK => ?_)
  have hs20 : w19.cell? ⟨gb640, 0, none⟩ = some (.int .i64 0) := bc BK640 0
  have hfs20 := blk_frozen BK640.out 0
  have hns20_0 := NB635_640.out
  have hns20_1 := NB636_640.out
  have hns20_2 := NB637_640.out
  have hms20_0 := NB640_635.out
  have hms20_1 := NB640_636.out
  have hms20_2 := NB640_637.out
  have hs21 : w19.cell? ⟨gb640, 1, none⟩ = some (.int .i64 0) := bc BK640 1
  have hfs21 := blk_frozen BK640.out 1
  have hns21_0 := NB635_640.out
  have hns21_1 := NB636_640.out
  have hns21_2 := NB637_640.out
  have hms21_0 := NB640_635.out
  have hms21_1 := NB640_636.out
  have hms21_2 := NB640_637.out
  refine skip_ (w1 := ?_) (by rfl) rfl ?_ ?_
  rotate_left
  ·go_simp
   rfl
  refine hK.out _ _ ⟨((cell_far (p := ⟨gb640, _, none⟩) NB635_640.out _).trans (((cell_far (p := ⟨gb640, _, none⟩) NB635_640.out _).trans (hHeld.1)))), ((cell_far (p := ⟨gb640, _, none⟩) NB635_640.out _).trans (((cell_far (p := ⟨gb640, _, none⟩) NB635_640.out _).trans (hHeld.2))))⟩ (fun hHeld => ?_)
  clear hK K
  refine done_ (done_of HT_.out (by kernel_rfl)) ?_
  try go_wp2
  go_loopg [1] k (fun kq v1 w' => ∃ (x1_1 : Int) (x638000_1 : Int) (x638001_1 : Int) (x641000_1 : Int) (x641001_1 : Int), v1 = .int .i64 x1_1 ∧ Aside0 (spec_TwoPow.l0 kq x1_1 x638000_1 x638001_1 x641000_1 x641001_1 = some (r1, r2)) ∧ Aside0 (kq ≤ k) ∧ Aside0 (w'.heap[gb635]? = some (.cells #[.int .i64 a0_0, .int .i64 a0_1] 75 (0, 0))) ∧ Aside0 (w'.heap[gb636]? = some (.cells #[.int .i64 0, .int .i64 0] 75 (0, 0))) ∧ Aside0 (w'.heap[gb637]? = some (.cells #[.int .i64 x638000_1, .int .i64 x638001_1] 75 (0, 0))) ∧ Aside0 (w'.heap[gb640]? = some (.cells #[.int .i64 x641000_1, .int .i64 x641001_1] 75 (0, 0))) ∧ Aside0 (Below w.heap.size w w'))
  case atStart => exact ⟨(a1), (1), (0), (t638), (t639), rS, H', ⟨Nat.le_refl _⟩, ⟨bP BK635⟩, ⟨bP BK636⟩, ⟨bP BK637⟩, ⟨bU BK640⟩, ⟨bZ HB⟩⟩
  case round =>
   clear H'
   try clear c1
   try clear p2
   try clear c3
   try clear c3b0
   try clear c6
   try clear c11
   try clear c13
   try clear c14
   try clear hcz15_0
   try clear hcz15_1
   try clear hcz7_0
   try clear hcz7_1
   try clear hfz15_0
   try clear hfz15_1
   try clear hfz7_0
   try clear hfz7_1
   obtain ⟨x1_1, x638000_1, x638001_1, x641000_1, x641001_1, rfl, HA, HK1, BK635, BK636, BK637, BK640, HB⟩ := hrel
   cases gk with
   | zero => exact absurd HA.out (by simp [spec_TwoPow.l0])
   | succ k1 =>
    have H := HA.out
    clear HA
    simp only [spec_TwoPow.l0] at H
    by_cases c22 : x1_1 > 0
    ·rw [if_pos c22] at H
     have c22b0 := decide_eq_true c22
     clear c22
     by_cases c23 : (Int.tmod x1_1 2) = 1
     ·rw [if_pos c23] at H
      have c23b0 : ((Int.tmod x1_1 2) == 1) = true := beq_iff_eq.mpr c23
      have c23b1 : ((Int.tmod x1_1 2) != 1) = false := bne_eq_false_iff_eq.mpr c23
      clear c23
      replace H := Option.bind_eq_some_iff.mp H
      obtain ⟨⟨t641, t642⟩, A240, H⟩ := H
      have A24 := Aside0.mk A240
      clear A240
      replace H := Option.bind_eq_some_iff.mp H
      obtain ⟨⟨t643, t644⟩, A250, H⟩ := H
      have A25 := Aside0.mk A250
      clear A250
      have H' := Aside0.mk H
      clear H
      obtain ⟨hnb26, hnc26⟩ := nB NB637_635
      obtain ⟨hnb27, hnc27⟩ := nB NB637_636
      obtain ⟨hnb28, hnc28⟩ := nB NB637_640
      obtain ⟨hcz29_0, hcz29_1, hfz29_0, hfz29_1⟩ := bK2 (w := wr) BK637
      obtain ⟨hnb30, hnc30⟩ := nB NB640_635
      obtain ⟨hnb31, hnc31⟩ := nB NB640_636
      obtain ⟨hcz32_0, hcz32_1, hfz32_0, hfz32_1⟩ := bK2 (w := wr) BK640
      go_wp2_with (first | (refine gC (some 25) Tryz.func120 #[.agg #[.int .i64 x638000_1, .int .i64 x638001_1], .agg #[.int .i64 x641000_1, .int .i64 x641001_1]] ?_; (with_reducible refine (spec_TwoMul.calls x638000_1 x638001_1 x641000_1 x641001_1 t641 t642 _ A24.out).mono ?_); rintro e w33 ⟨rfl, hb⟩; refine ⟨_, rfl, ?_⟩; replace BK635 := bB BK635 hb; replace BK636 := bB BK636 hb; replace BK637 := bB BK637 hb; replace BK640 := bB BK640 hb; replace HB := bS HB hb; (try clear hb); obtain ⟨hcz34_0, hcz34_1, hfz34_0, hfz34_1⟩ := bK2 (w := w33) BK637; obtain ⟨hcz35_0, hcz35_1, hfz35_0, hfz35_1⟩ := bK2 (w := w33) BK640) | (refine gC (some 28) Tryz.func120 #[.agg #[.int .i64 x641000_1, .int .i64 x641001_1], .agg #[.int .i64 x641000_1, .int .i64 x641001_1]] ?_; (with_reducible refine (spec_TwoMul.calls x641000_1 x641001_1 x641000_1 x641001_1 t643 t644 _ A25.out).mono ?_); rintro e w36 ⟨rfl, hb⟩; refine ⟨_, rfl, ?_⟩; replace BK635 := bB BK635 hb; replace BK636 := bB BK636 hb; replace BK637 := bV 75 #[.int .i64 t641, .int .i64 t642] BK637 hb; replace BK640 := bB BK640 hb; replace HB := bS HB hb; (try clear hb); obtain ⟨hcz37_0, hcz37_1, hfz37_0, hfz37_1⟩ := bK2 (w := w36) BK640))
      go_roundg k1
      case measure => have := HK1.out; omega
      case rel => exact ⟨(wrap64 (Int.tdiv x1_1 2)), (t641), (t642), (t643), (t644), rS, H', ⟨by have := HK1.out; omega⟩, ⟨bP BK635⟩, ⟨bP BK636⟩, ⟨bP BK637⟩, ⟨bU BK640⟩, ⟨bZ HB⟩⟩
     ·rw [if_neg c23] at H
      have c23b0 : ((Int.tmod x1_1 2) == 1) = false := beq_eq_false_iff_ne.mpr c23
      have c23b1 : ((Int.tmod x1_1 2) != 1) = true := bne_iff_ne.mpr c23
      replace H := Option.bind_eq_some_iff.mp H
      obtain ⟨⟨t645, t646⟩, A380, H⟩ := H
      have A38 := Aside0.mk A380
      clear A380
      have H' := Aside0.mk H
      clear H
      obtain ⟨hnb39, hnc39⟩ := nB NB640_635
      obtain ⟨hnb40, hnc40⟩ := nB NB640_636
      obtain ⟨hnb41, hnc41⟩ := nB NB640_637
      obtain ⟨hcz42_0, hcz42_1, hfz42_0, hfz42_1⟩ := bK2 (w := wr) BK640
      go_wp2_with (first | (refine gC (some 28) Tryz.func120 #[.agg #[.int .i64 x641000_1, .int .i64 x641001_1], .agg #[.int .i64 x641000_1, .int .i64 x641001_1]] ?_; (with_reducible refine (spec_TwoMul.calls x641000_1 x641001_1 x641000_1 x641001_1 t645 t646 _ A38.out).mono ?_); rintro e w43 ⟨rfl, hb⟩; refine ⟨_, rfl, ?_⟩; replace BK635 := bB BK635 hb; replace BK636 := bB BK636 hb; replace BK637 := bB BK637 hb; replace BK640 := bB BK640 hb; replace HB := bS HB hb; (try clear hb); obtain ⟨hcz44_0, hcz44_1, hfz44_0, hfz44_1⟩ := bK2 (w := w43) BK640))
      go_roundg k1
      case measure => have := HK1.out; omega
      case rel => exact ⟨(wrap64 (Int.tdiv x1_1 2)), (x638000_1), (x638001_1), (t645), (t646), rS, H', ⟨by have := HK1.out; omega⟩, ⟨bP BK635⟩, ⟨bP BK636⟩, ⟨bP BK637⟩, ⟨bU BK640⟩, ⟨bZ HB⟩⟩
    ·rw [if_neg c22] at H
     have c22b0 := decide_eq_false c22
     clear c22
     simp only [Option.some.injEq, Prod.mk.injEq] at H
     obtain ⟨rfl, rfl⟩ := H
     obtain ⟨hnb45, hnc45⟩ := nB NB637_635
     obtain ⟨hnb46, hnc46⟩ := nB NB637_636
     obtain ⟨hnb47, hnc47⟩ := nB NB637_640
     obtain ⟨hcz48_0, hcz48_1, hfz48_0, hfz48_1⟩ := bK2 (w := wr) BK637
     obtain ⟨hnb49, hnc49⟩ := nB NB636_635
     obtain ⟨hnb50, hnc50⟩ := nB NB636_640
     obtain ⟨hcz51_0, hcz51_1, hfz51_0, hfz51_1⟩ := bK2 (w := wr) BK636
     go_wp2
     refine rC gb636 75 #[.int .i64 x638000_1, .int .i64 x638001_1] (bU BK636) Tryz.underlying75 ?_
     exact ⟨rR, bZ HB⟩
def spec_TwoTurn.f (a0_0 : Int) (a0_1 : Int) : Option (Int × Int) := (spec_FpOf.f a0_0).bind fun t649 => ((spec_FpSub.f 0 a0_1).bind fun t650 => (some (t649, t650)))
def spec_TwoTurn.T1 : Bool × List (List Nat × List Nat) := (true, [([], []), ([0], [0]), ([1], [1]), ([], []), ([3], [3]), ([4, 2], [4]), ([2, 5], [2, 5]), ([6, 5, 0, 1, 2, 3, 4, 5, 6], [6])])
def spec_TwoTurn.B1 : List Nat := [0, 1, 3, 0, 8, 31, 63, 127]
theorem spec_TwoTurn.tab1 : rtab .any (opsOf Tryz.f121 1) = spec_TwoTurn.T1 := by kernel_rfl
theorem spec_TwoTurn.bits1 : waitsOk spec_TwoTurn.T1.2 spec_TwoTurn.B1 = true := by kernel_rfl
set_option maxHeartbeats 8000000 in
set_option maxRecDepth 100000 in
theorem spec_TwoTurn.calls (a0_0 : Int) (a0_1 : Int) (r1 : Int) (r2 : Int) (w : World) (h : spec_TwoTurn.f a0_0 a0_1 = some (r1, r2)) :
  Calls Tryz.prog 121 #[.agg #[.int .i64 a0_0, .int .i64 a0_1]] w fun e w' => e = .returned (.agg #[.int .i64 r1, .int .i64 r2]) ∧ Below w.heap.size w w' := by
 have hu75 := Tryz.underlying75
 have HB := Aside0.mk (Below.refl w.heap.size w)
 have H : ((spec_FpOf.f a0_0).bind fun t649 => ((spec_FpSub.f 0 a0_1).bind fun t650 => (some (t649, t650)))) = some (r1, r2) := h
 clear h
 replace H := Option.bind_eq_some_iff.mp H
 obtain ⟨t649, A20, H⟩ := H
 have A2 := Aside0.mk A20
 clear A20
 replace H := Option.bind_eq_some_iff.mp H
 obtain ⟨t650, A30, H⟩ := H
 have A3 := Aside0.mk A30
 clear A30
 simp only [Option.some.injEq, Prod.mk.injEq] at H
 obtain ⟨rfl, rfl⟩ := H
 go_enter Tryz.func121, Tryz.ntmps121
 try go_wp2_with (first | (refine gB 1 #[.int .i64 a0_0, .int .i64 a0_1] 75 ?_; intro gb647 hg w4 BK647 hb; have GW647 := bG HB hg; replace HB := bS HB hb; clear hb hg) | (refine gB 2 #[.int .i64 0, .int .i64 0] 75 ?_; intro gb648 hg w5 BK648 hb; have GW648 := bG HB hg; replace HB := bS HB hb; obtain ⟨NB647_648, NB648_647⟩ := bN BK647 hg; replace BK647 := bB BK647 hb; clear hb hg))
 replace BK647 := Aside0.mk (blk_drew BK647.out)
 replace BK648 := Aside0.mk (blk_drew BK648.out)
 replace HB := Aside0.mk (below_drew1 HB.out)
 refine start_ (n := 8) (S := fun w' => SQ2 w' gb647 (.int .i64 a0_0) (.int .i64 a0_1)) (ds := []) #[false, false, false, false, false, false, false, false] (by kernel_rfl) rfl rfl (bT2 BK647) (fun hHeld => ?_); refine with_tabW spec_TwoTurn.tab1 spec_TwoTurn.bits1 (fun HT_ HW_ => ?_)
 generalize w5.drew = w6 at BK647 BK648 HB hHeld ⊢
 refine pI 0 (some 3) HT_.out ?_
 refine pI 3 (some 6) HT_.out ?_
 refine tI2 1 (some 4) HT_.out HW_.out hHeld ?_
 refine tI2 4 (some 7) HT_.out HW_.out hHeld ?_
 refine oI 2 (some 5) HT_.out (fun K hK => ?_)
 refine gO Tryz.func62 #[.int .i64 a0_0] ?_
 with_reducible refine (spec_FpOf.calls a0_0 t649 _ A2.out).mono ?_
 rintro e w' ⟨rfl, ⟨nd, rfl⟩⟩
 refine ⟨_, rfl, ?_⟩
 refine hK.out _ _ (bT2 BK647) (fun hHeld => ?_)
 clear hK K
 refine nO (some 5) ?_
 refine oI 5 (some 8) HT_.out (fun K hK => ?_)
 refine gO Tryz.func113 #[.int .i64 0, .int .i64 a0_1] ?_
 with_reducible refine (spec_FpSub.calls 0 a0_1 t650 _ A3.out).mono ?_
 rintro e w' ⟨rfl, ⟨nd, rfl⟩⟩
 refine ⟨_, rfl, ?_⟩
 refine hK.out _ _ (bT2 BK647) (fun hHeld => ?_)
 clear hK K
 refine nO (some 8) ?_
 refine pI 6 (some 9) HT_.out ?_
 refine oI 7 (none) HT_.out (fun K hK => ?_)
 have hs7 : w6.cell? ⟨gb648, 0, none⟩ = some (.int .i64 0) := bc BK648 0
 have hfs7 := blk_frozen BK648.out 0
 obtain ⟨hns7_0, hms7_0⟩ := nB NB647_648
 have hs8 : w6.cell? ⟨gb648, 1, none⟩ = some (.int .i64 0) := bc BK648 1
 have hfs8 := blk_frozen BK648.out 1
 obtain ⟨hns8_0, hms8_0⟩ := nB NB647_648
 refine skip_ (w1 := ?_) (by rfl) rfl ?_ ?_
 rotate_left
 ·go_simp
  rfl
 refine hK.out _ _ ⟨((cell_far (p := ⟨gb648, _, none⟩) NB647_648.out _).trans (((cell_far (p := ⟨gb648, _, none⟩) NB647_648.out _).trans (hHeld.1)))), ((cell_far (p := ⟨gb648, _, none⟩) NB647_648.out _).trans (((cell_far (p := ⟨gb648, _, none⟩) NB647_648.out _).trans (hHeld.2))))⟩ (fun hHeld => ?_)
 clear hK K
 refine done_ (done_of HT_.out (by kernel_rfl)) ?_
 try go_wp2
 refine rC gb648 75 #[.int .i64 t649, .int .i64 t650] (bU BK648) Tryz.underlying75 ?_
 exact ⟨rR, bZ HB⟩
def spec_TwoInv.f (k : Nat) (a0_0 : Int) (a0_1 : Int) : Option (Int × Int) := (spec_FpMul.f a0_0 a0_0).bind fun t653 => ((spec_FpMul.f a0_1 a0_1).bind fun t654 => ((spec_FpAdd.f t653 t654).bind fun t655 => ((spec_FpInv.f k t655).bind fun t656 => ((spec_FpMul.f a0_0 t656).bind fun t657 => ((spec_FpSub.f 0 a0_1).bind fun t658 => ((spec_FpMul.f t658 t656).bind fun t659 => (some (t657, t659))))))))
def spec_TwoInv.T1 : Bool × List (List Nat × List Nat) := (true, [([], []), ([0], [0]), ([], []), ([2], [2]), ([1, 3], [1, 3]), ([], []), ([5], [5]), ([], []), ([7], [7]), ([6, 8, 4], [6, 8]), ([4, 9, 9], [4, 9]), ([10, 10], [10]), ([11, 11, 0, 1, 2, 3, 4, 5, 6, 7, 8, 9, 10, 11], [11])])
def spec_TwoInv.B1 : List Nat := [0, 1, 0, 4, 15, 0, 32, 0, 128, 511, 1023, 2047, 4095]
theorem spec_TwoInv.tab1 : rtab .any (opsOf Tryz.f122 1) = spec_TwoInv.T1 := by kernel_rfl
theorem spec_TwoInv.bits1 : waitsOk spec_TwoInv.T1.2 spec_TwoInv.B1 = true := by kernel_rfl
def spec_TwoInv.T2 : Bool × List (List Nat × List Nat) := (true, [([], []), ([0], [0]), ([], []), ([1, 2], [1, 2]), ([], []), ([4], [4]), ([5, 3], [5]), ([], []), ([6, 7, 6], [6, 7]), ([3, 8], [3, 8]), ([9, 8, 0, 1, 2, 3, 4, 5, 6, 7, 8, 9], [9])])
def spec_TwoInv.B2 : List Nat := [0, 1, 0, 7, 0, 16, 63, 0, 255, 511, 1023]
theorem spec_TwoInv.tab2 : rtab .any (opsOf Tryz.f122 2) = spec_TwoInv.T2 := by kernel_rfl
theorem spec_TwoInv.bits2 : waitsOk spec_TwoInv.T2.2 spec_TwoInv.B2 = true := by kernel_rfl
set_option maxHeartbeats 8000000 in
set_option maxRecDepth 100000 in
theorem spec_TwoInv.calls (k : Nat) (a0_0 : Int) (a0_1 : Int) (r1 : Int) (r2 : Int) (w : World) (h : spec_TwoInv.f k a0_0 a0_1 = some (r1, r2)) :
  Calls Tryz.prog 122 #[.agg #[.int .i64 a0_0, .int .i64 a0_1]] w fun e w' => e = .returned (.agg #[.int .i64 r1, .int .i64 r2]) ∧ Below w.heap.size w w' := by
 have hu75 := Tryz.underlying75
 have HB := Aside0.mk (Below.refl w.heap.size w)
 have H : ((spec_FpMul.f a0_0 a0_0).bind fun t653 => ((spec_FpMul.f a0_1 a0_1).bind fun t654 => ((spec_FpAdd.f t653 t654).bind fun t655 => ((spec_FpInv.f k t655).bind fun t656 => ((spec_FpMul.f a0_0 t656).bind fun t657 => ((spec_FpSub.f 0 a0_1).bind fun t658 => ((spec_FpMul.f t658 t656).bind fun t659 => (some (t657, t659))))))))) = some (r1, r2) := h
 clear h
 replace H := Option.bind_eq_some_iff.mp H
 obtain ⟨t653, A20, H⟩ := H
 have A2 := Aside0.mk A20
 clear A20
 replace H := Option.bind_eq_some_iff.mp H
 obtain ⟨t654, A30, H⟩ := H
 have A3 := Aside0.mk A30
 clear A30
 replace H := Option.bind_eq_some_iff.mp H
 obtain ⟨t655, A40, H⟩ := H
 have A4 := Aside0.mk A40
 clear A40
 replace H := Option.bind_eq_some_iff.mp H
 obtain ⟨t656, A50, H⟩ := H
 have A5 := Aside0.mk A50
 clear A50
 replace H := Option.bind_eq_some_iff.mp H
 obtain ⟨t657, A60, H⟩ := H
 have A6 := Aside0.mk A60
 clear A60
 replace H := Option.bind_eq_some_iff.mp H
 obtain ⟨t658, A70, H⟩ := H
 have A7 := Aside0.mk A70
 clear A70
 replace H := Option.bind_eq_some_iff.mp H
 obtain ⟨t659, A80, H⟩ := H
 have A8 := Aside0.mk A80
 clear A80
 simp only [Option.some.injEq, Prod.mk.injEq] at H
 obtain ⟨rfl, rfl⟩ := H
 go_enter Tryz.func122, Tryz.ntmps122
 try go_wp2_with (first | (refine gB 1 #[.int .i64 a0_0, .int .i64 a0_1] 75 ?_; intro gb651 hg w9 BK651 hb; have GW651 := bG HB hg; replace HB := bS HB hb; clear hb hg) | (refine gB 2 #[.int .i64 0, .int .i64 0] 75 ?_; intro gb652 hg w10 BK652 hb; have GW652 := bG HB hg; replace HB := bS HB hb; obtain ⟨NB651_652, NB652_651⟩ := bN BK651 hg; replace BK651 := bB BK651 hb; clear hb hg))
 replace BK651 := Aside0.mk (blk_drew BK651.out)
 replace BK652 := Aside0.mk (blk_drew BK652.out)
 replace HB := Aside0.mk (below_drew1 HB.out)
 refine start_ (n := 13) (S := fun w' => SQ2 w' gb651 (.int .i64 a0_0) (.int .i64 a0_1)) (ds := []) #[false, false, false, false, false, false, false, false, false, false, false, false, false] (by kernel_rfl) rfl rfl (bT2 BK651) (fun hHeld => ?_); refine with_tabW spec_TwoInv.tab1 spec_TwoInv.bits1 (fun HT_ HW_ => ?_)
 generalize w10.drew = w11 at BK651 BK652 HB hHeld ⊢
 refine pI 0 (some 4) HT_.out ?_
 refine pI 2 (some 6) HT_.out ?_
 refine pI 5 (some 9) HT_.out ?_
 refine pI 7 (some 11) HT_.out ?_
 refine tI2 1 (some 5) HT_.out HW_.out hHeld ?_
 refine tI2 3 (some 7) HT_.out HW_.out hHeld ?_
 refine tI2 6 (some 10) HT_.out HW_.out hHeld ?_
 refine tI2 8 (some 12) HT_.out HW_.out hHeld ?_
 refine oI 4 (some 8) HT_.out (fun K hK => ?_)
 refine gO Tryz.func112 #[.int .i64 a0_0, .int .i64 a0_0] ?_
 with_reducible refine (spec_FpMul.calls a0_0 a0_0 t653 _ A2.out).mono ?_
 rintro e w' ⟨rfl, ⟨nd, rfl⟩⟩
 refine ⟨_, rfl, ?_⟩
 refine hK.out _ _ (bT2 BK651) (fun hHeld => ?_)
 clear hK K
 refine nO (some 8) ?_
 refine oI 9 (some 13) HT_.out (fun K hK => ?_)
 refine gO Tryz.func112 #[.int .i64 a0_1, .int .i64 a0_1] ?_
 with_reducible refine (spec_FpMul.calls a0_1 a0_1 t654 _ A3.out).mono ?_
 rintro e w' ⟨rfl, ⟨nd, rfl⟩⟩
 refine ⟨_, rfl, ?_⟩
 refine hK.out _ _ (bT2 BK651) (fun hHeld => ?_)
 clear hK K
 refine nO (some 13) ?_
 refine oI 10 (some 14) HT_.out (fun K hK => ?_)
 refine gO Tryz.func114 #[.int .i64 t653, .int .i64 t654] ?_
 with_reducible refine (spec_FpAdd.calls t653 t654 t655 _ A4.out).mono ?_
 rintro e w' ⟨rfl, ⟨nd, rfl⟩⟩
 refine ⟨_, rfl, ?_⟩
 refine hK.out _ _ (bT2 BK651) (fun hHeld => ?_)
 clear hK K
 refine nO (some 14) ?_
 refine oI 11 (some 15) HT_.out (fun K hK => ?_)
 refine gO Tryz.func142 #[.int .i64 t655] ?_
 with_reducible refine (spec_FpInv.calls k t655 t656 _ A5.out).mono ?_
 rintro e w' ⟨rfl, ⟨nd, rfl⟩⟩
 refine ⟨_, rfl, ?_⟩
 refine hK.out _ _ (bT2 BK651) (fun hHeld => ?_)
 clear hK K
 refine nO (some 15) ?_
 refine pI 12 (some 3) HT_.out ?_
 refine done_ (done_of HT_.out (by kernel_rfl)) ?_
 try go_wp2
 (try simp only [World.drewN_drewN]); (try (rw [drewN_self w11]; generalize hq_ : World.drewN w11 _ = w11; replace BK651 : Aside0 (w11.heap[gb651]? = some (.cells #[.int .i64 a0_0, .int .i64 a0_1] 75 (0, 0))) := ⟨by rw [← hq_]; exact (bP BK651)⟩; replace BK652 : Aside0 (w11.heap[gb652]? = some (.cells #[.int .i64 0, .int .i64 0] 75 (0, 0))) := ⟨by rw [← hq_]; exact (bP BK652)⟩; replace HB : Aside0 (Below w.heap.size w w11) := ⟨by rw [← hq_]; exact (bZ HB)⟩; clear hq_))
 replace BK651 := Aside0.mk (blk_drew BK651.out)
 replace BK652 := Aside0.mk (blk_drew BK652.out)
 replace HB := Aside0.mk (below_drew1 HB.out)
 refine start_ (n := 11) (S := fun w' => SQ2 w' gb651 (.int .i64 a0_0) (.int .i64 a0_1)) (ds := []) #[false, false, false, false, false, false, false, false, false, false, false] (by kernel_rfl) rfl rfl (bT2 BK651) (fun hHeld => ?_); refine with_tabW spec_TwoInv.tab2 spec_TwoInv.bits2 (fun HT_ HW_ => ?_)
 generalize w11.drew = w12 at BK651 BK652 HB hHeld ⊢
 refine pI 0 (some 16) HT_.out ?_
 refine pI 2 (some 18) HT_.out ?_
 refine pI 4 (some 20) HT_.out ?_
 refine pI 7 (some 23) HT_.out ?_
 refine tI2 1 (some 17) HT_.out HW_.out hHeld ?_
 refine tI2 5 (some 21) HT_.out HW_.out hHeld ?_
 refine oI 3 (some 19) HT_.out (fun K hK => ?_)
 refine gO Tryz.func112 #[.int .i64 a0_0, .int .i64 t656] ?_
 with_reducible refine (spec_FpMul.calls a0_0 t656 t657 _ A6.out).mono ?_
 rintro e w' ⟨rfl, ⟨nd, rfl⟩⟩
 refine ⟨_, rfl, ?_⟩
 refine hK.out _ _ (bT2 BK651) (fun hHeld => ?_)
 clear hK K
 refine nO (some 19) ?_
 refine oI 6 (some 22) HT_.out (fun K hK => ?_)
 refine gO Tryz.func113 #[.int .i64 0, .int .i64 a0_1] ?_
 with_reducible refine (spec_FpSub.calls 0 a0_1 t658 _ A7.out).mono ?_
 rintro e w' ⟨rfl, ⟨nd, rfl⟩⟩
 refine ⟨_, rfl, ?_⟩
 refine hK.out _ _ (bT2 BK651) (fun hHeld => ?_)
 clear hK K
 refine nO (some 22) ?_
 refine oI 8 (some 24) HT_.out (fun K hK => ?_)
 refine gO Tryz.func112 #[.int .i64 t658, .int .i64 t656] ?_
 with_reducible refine (spec_FpMul.calls t658 t656 t659 _ A8.out).mono ?_
 rintro e w' ⟨rfl, ⟨nd, rfl⟩⟩
 refine ⟨_, rfl, ?_⟩
 refine hK.out _ _ (bT2 BK651) (fun hHeld => ?_)
 clear hK K
 refine nO (some 24) ?_
 refine pI 9 (some 25) HT_.out ?_
 refine oI 10 (none) HT_.out (fun K hK => ?_)
 have hs13 : w12.cell? ⟨gb652, 0, none⟩ = some (.int .i64 0) := bc BK652 0
 have hfs13 := blk_frozen BK652.out 0
 obtain ⟨hns13_0, hms13_0⟩ := nB NB651_652
 have hs14 : w12.cell? ⟨gb652, 1, none⟩ = some (.int .i64 0) := bc BK652 1
 have hfs14 := blk_frozen BK652.out 1
 obtain ⟨hns14_0, hms14_0⟩ := nB NB651_652
 refine skip_ (w1 := ?_) (by rfl) rfl ?_ ?_
 rotate_left
 ·go_simp
  rfl
 refine hK.out _ _ ⟨((cell_far (p := ⟨gb652, _, none⟩) NB651_652.out _).trans (((cell_far (p := ⟨gb652, _, none⟩) NB651_652.out _).trans (hHeld.1)))), ((cell_far (p := ⟨gb652, _, none⟩) NB651_652.out _).trans (((cell_far (p := ⟨gb652, _, none⟩) NB651_652.out _).trans (hHeld.2))))⟩ (fun hHeld => ?_)
 clear hK K
 refine done_ (done_of HT_.out (by kernel_rfl)) ?_
 try go_wp2
 refine rC gb652 75 #[.int .i64 t657, .int .i64 t659] (bU BK652) Tryz.underlying75 ?_
 exact ⟨rR, bZ HB⟩
def spec_Pairing.j0 : Nat → Bool → Int → Int → Bool → Int → Int → Bool → Option (Int × Int)
 | 0, _, _, _, _, _, _, _ => none
 | k + 1, x21, x661000, x661001, x661002, x662000, x662001, x662002 => if x21 = true then (some (1, 0)) else ((spec_Miller.f k x661000 x661001 x661002 x662000 x662001 x662002).bind fun bt665 => ((spec_TwoTurn.f bt665.1 bt665.2).bind fun bt668 => ((spec_TwoInv.f k bt665.1 bt665.2).bind fun bt670 => ((spec_TwoMul.f bt668.1 bt668.2 bt670.1 bt670.2).bind fun bt672 => ((spec_TwoPow.f k bt672.1 bt672.2 12).bind fun bt674 => (some (bt674.1, bt674.2)))))))
def spec_Pairing.f (k : Nat) (a0_0 : Int) (a0_1 : Int) (a0_2 : Bool) (a1_0 : Int) (a1_1 : Int) (a1_2 : Bool) : Option (Int × Int) := (spec_InGroup.f k a0_0 a0_1 a0_2).bind fun t663 => (if t663 = true then ((spec_InGroup.f k a1_0 a1_1 a1_2).bind fun t664 => (if t664 = true then (if a0_2 = true then (spec_Pairing.j0 k true a0_0 a0_1 a0_2 a1_0 a1_1 a1_2) else (spec_Pairing.j0 k a1_2 a0_0 a0_1 a0_2 a1_0 a1_1 a1_2)) else (spec_Pairing.j0 k true a0_0 a0_1 a0_2 a1_0 a1_1 a1_2))) else (spec_Pairing.j0 k true a0_0 a0_1 a0_2 a1_0 a1_1 a1_2))
set_option maxHeartbeats 8000000 in
set_option maxRecDepth 100000 in
theorem spec_Pairing.calls (k : Nat) (a0_0 : Int) (a0_1 : Int) (a0_2 : Bool) (a1_0 : Int) (a1_1 : Int) (a1_2 : Bool) (r1 : Int) (r2 : Int) (w : World) (h : spec_Pairing.f k a0_0 a0_1 a0_2 a1_0 a1_1 a1_2 = some (r1, r2)) :
  Calls Tryz.prog 68 #[.agg #[.int .i64 a0_0, .int .i64 a0_1, .bool a0_2], .agg #[.int .i64 a1_0, .int .i64 a1_1, .bool a1_2]] w fun e w' => e = .returned (.agg #[.int .i64 r1, .int .i64 r2]) ∧ Below w.heap.size w w' := by
 have hu28 := Tryz.underlying28
 have hu75 := Tryz.underlying75
 have HB := Aside0.mk (Below.refl w.heap.size w)
 have H : ((spec_InGroup.f k a0_0 a0_1 a0_2).bind fun t663 => (if t663 = true then ((spec_InGroup.f k a1_0 a1_1 a1_2).bind fun t664 => (if t664 = true then (if a0_2 = true then (spec_Pairing.j0 k true a0_0 a0_1 a0_2 a1_0 a1_1 a1_2) else (spec_Pairing.j0 k a1_2 a0_0 a0_1 a0_2 a1_0 a1_1 a1_2)) else (spec_Pairing.j0 k true a0_0 a0_1 a0_2 a1_0 a1_1 a1_2))) else (spec_Pairing.j0 k true a0_0 a0_1 a0_2 a1_0 a1_1 a1_2))) = some (r1, r2) := h
 clear h
 have HC3 := Aside0.mk H
 clear H
 go_enter Tryz.func68, Tryz.ntmps68
 go_upto_region 1 with (first | (refine gB 2 #[.int .i64 a0_0, .int .i64 a0_1, .bool a0_2] 28 ?_; intro gb660 hg w4 BK660 hb; have GW660 := bG HB hg; replace HB := bS HB hb; clear hb hg) | (refine gB 3 #[.int .i64 a1_0, .int .i64 a1_1, .bool a1_2] 28 ?_; intro gb661 hg w5 BK661 hb; have GW661 := bG HB hg; replace HB := bS HB hb; obtain ⟨NB660_661, NB661_660⟩ := bN BK660 hg; replace BK660 := bB BK660 hb; clear hb hg) | (refine gB 4 #[.int .i64 0, .int .i64 0] 75 ?_; intro gb662 hg w6 BK662 hb; have GW662 := bG HB hg; replace HB := bS HB hb; obtain ⟨NB660_662, NB662_660⟩ := bN BK660 hg; replace BK660 := bB BK660 hb; obtain ⟨NB661_662, NB662_661⟩ := bN BK661 hg; replace BK661 := bB BK661 hb; clear hb hg))
 (try simp only [Act.put, List.setIfInBounds_toArray, List.set_cons_zero, List.set_cons_succ])
 go_cut [21] (fun v21 wc => ∃ (kq : Nat) (x21_2 : Bool), v21 = .bool x21_2 ∧ Aside0 (spec_Pairing.j0 kq x21_2 a0_0 a0_1 a0_2 a1_0 a1_1 a1_2 = some (r1, r2)) ∧ Aside0 (kq ≤ k) ∧ Aside0 (wc.heap[gb660]? = some (.cells #[.int .i64 a0_0, .int .i64 a0_1, .bool a0_2] 28 (0, 0))) ∧ Aside0 (wc.heap[gb661]? = some (.cells #[.int .i64 a1_0, .int .i64 a1_1, .bool a1_2] 28 (0, 0))) ∧ Aside0 (wc.heap[gb662]? = some (.cells #[.int .i64 0, .int .i64 0] 75 (0, 0))) ∧ Aside0 (Below w.heap.size w wc))
 case first =>
  have H := HC3.out
  clear HC3
  replace H := Option.bind_eq_some_iff.mp H
  obtain ⟨t663, A70, H⟩ := H
  have A7 := Aside0.mk A70
  clear A70
  by_cases c8 : t663 = true
  ·subst c8
   rw [if_pos rfl] at H
   replace H := Option.bind_eq_some_iff.mp H
   obtain ⟨t664, A90, H⟩ := H
   have A9 := Aside0.mk A90
   clear A90
   by_cases c10 : t664 = true
   ·subst c10
    rw [if_pos rfl] at H
    by_cases c11 : a0_2 = true
    ·subst c11
     rw [if_pos rfl] at H
     have H' := Aside0.mk H
     clear H
     obtain ⟨hnb12, hnc12⟩ := nB NB660_661
     obtain ⟨hnb13, hnc13⟩ := nB NB660_662
     obtain ⟨hcz14_0, hcz14_1, hcz14_2, hfz14_0, hfz14_1, hfz14_2⟩ := bK3 (w := w6) BK660
     go_wp2_with (first | (refine gC (some 7) Tryz.func67 #[.agg #[.int .i64 a0_0, .int .i64 a0_1, .bool true]] ?_; (with_reducible refine (spec_InGroup.calls k a0_0 a0_1 true true _ A7.out).mono ?_); rintro e w15 ⟨rfl, hb⟩; refine ⟨_, rfl, ?_⟩; replace BK660 := bB BK660 hb; replace BK661 := bB BK661 hb; replace BK662 := bB BK662 hb; replace HB := bS HB hb; (try clear hb); obtain ⟨hnb16, hnc16⟩ := nB NB661_662; obtain ⟨hcz17_0, hcz17_1, hcz17_2, hfz17_0, hfz17_1, hfz17_2⟩ := bK3 (w := w15) BK661) | (go_at_call 67; (with_reducible refine (spec_InGroup.calls k a1_0 a1_1 a1_2 true _ A9.out).mono ?_); rintro e w18 ⟨rfl, hb⟩; replace BK660 := bB BK660 hb; replace BK661 := bB BK661 hb; replace BK662 := bB BK662 hb; replace HB := bS HB hb; (try clear hb); obtain ⟨hcz19_0, hcz19_1, hcz19_2, hfz19_0, hfz19_1, hfz19_2⟩ := bK3 (w := w18) BK660))
     go_meet
     case rel => exact ⟨_, (true), rS, H', ⟨by first | omega | exact Nat.le_refl _⟩, ⟨bP BK660⟩, ⟨bP BK661⟩, ⟨bP BK662⟩, ⟨bZ HB⟩⟩
    ·replace c11 := Bool.eq_false_iff.mpr c11
     subst c11
     rw [if_neg (show ¬ (false = true) by decide)] at H
     have H' := Aside0.mk H
     clear H
     obtain ⟨hnb20, hnc20⟩ := nB NB660_661
     obtain ⟨hnb21, hnc21⟩ := nB NB660_662
     obtain ⟨hcz22_0, hcz22_1, hcz22_2, hfz22_0, hfz22_1, hfz22_2⟩ := bK3 (w := w6) BK660
     go_wp2_with (first | (refine gC (some 7) Tryz.func67 #[.agg #[.int .i64 a0_0, .int .i64 a0_1, .bool false]] ?_; (with_reducible refine (spec_InGroup.calls k a0_0 a0_1 false true _ A7.out).mono ?_); rintro e w23 ⟨rfl, hb⟩; refine ⟨_, rfl, ?_⟩; replace BK660 := bB BK660 hb; replace BK661 := bB BK661 hb; replace BK662 := bB BK662 hb; replace HB := bS HB hb; (try clear hb); obtain ⟨hnb24, hnc24⟩ := nB NB661_662; obtain ⟨hcz25_0, hcz25_1, hcz25_2, hfz25_0, hfz25_1, hfz25_2⟩ := bK3 (w := w23) BK661) | (go_at_call 67; (with_reducible refine (spec_InGroup.calls k a1_0 a1_1 a1_2 true _ A9.out).mono ?_); rintro e w26 ⟨rfl, hb⟩; replace BK660 := bB BK660 hb; replace BK661 := bB BK661 hb; replace BK662 := bB BK662 hb; replace HB := bS HB hb; (try clear hb); obtain ⟨hcz27_0, hcz27_1, hcz27_2, hfz27_0, hfz27_1, hfz27_2⟩ := bK3 (w := w26) BK660; obtain ⟨hcz28_0, hcz28_1, hcz28_2, hfz28_0, hfz28_1, hfz28_2⟩ := bK3 (w := w26) BK661))
     go_meet
     case rel => exact ⟨_, (a1_2), rS, H', ⟨by first | omega | exact Nat.le_refl _⟩, ⟨bP BK660⟩, ⟨bP BK661⟩, ⟨bP BK662⟩, ⟨bZ HB⟩⟩
   ·replace c10 := Bool.eq_false_iff.mpr c10
    subst c10
    rw [if_neg (show ¬ (false = true) by decide)] at H
    have H' := Aside0.mk H
    clear H
    obtain ⟨hnb29, hnc29⟩ := nB NB660_661
    obtain ⟨hnb30, hnc30⟩ := nB NB660_662
    obtain ⟨hcz31_0, hcz31_1, hcz31_2, hfz31_0, hfz31_1, hfz31_2⟩ := bK3 (w := w6) BK660
    go_wp2_with (first | (refine gC (some 7) Tryz.func67 #[.agg #[.int .i64 a0_0, .int .i64 a0_1, .bool a0_2]] ?_; (with_reducible refine (spec_InGroup.calls k a0_0 a0_1 a0_2 true _ A7.out).mono ?_); rintro e w32 ⟨rfl, hb⟩; refine ⟨_, rfl, ?_⟩; replace BK660 := bB BK660 hb; replace BK661 := bB BK661 hb; replace BK662 := bB BK662 hb; replace HB := bS HB hb; (try clear hb); obtain ⟨hnb33, hnc33⟩ := nB NB661_662; obtain ⟨hcz34_0, hcz34_1, hcz34_2, hfz34_0, hfz34_1, hfz34_2⟩ := bK3 (w := w32) BK661) | (go_at_call 67; (with_reducible refine (spec_InGroup.calls k a1_0 a1_1 a1_2 false _ A9.out).mono ?_); rintro e w35 ⟨rfl, hb⟩; replace BK660 := bB BK660 hb; replace BK661 := bB BK661 hb; replace BK662 := bB BK662 hb; replace HB := bS HB hb; (try clear hb)))
    go_meet
    case rel => exact ⟨_, (true), rS, H', ⟨by first | omega | exact Nat.le_refl _⟩, ⟨bP BK660⟩, ⟨bP BK661⟩, ⟨bP BK662⟩, ⟨bZ HB⟩⟩
  ·replace c8 := Bool.eq_false_iff.mpr c8
   subst c8
   rw [if_neg (show ¬ (false = true) by decide)] at H
   have H' := Aside0.mk H
   clear H
   obtain ⟨hnb36, hnc36⟩ := nB NB660_661
   obtain ⟨hnb37, hnc37⟩ := nB NB660_662
   obtain ⟨hcz38_0, hcz38_1, hcz38_2, hfz38_0, hfz38_1, hfz38_2⟩ := bK3 (w := w6) BK660
   go_wp2_with (first | (refine gC (some 7) Tryz.func67 #[.agg #[.int .i64 a0_0, .int .i64 a0_1, .bool a0_2]] ?_; (with_reducible refine (spec_InGroup.calls k a0_0 a0_1 a0_2 false _ A7.out).mono ?_); rintro e w39 ⟨rfl, hb⟩; refine ⟨_, rfl, ?_⟩; replace BK660 := bB BK660 hb; replace BK661 := bB BK661 hb; replace BK662 := bB BK662 hb; replace HB := bS HB hb; (try clear hb)))
   go_meet
   case rel => exact ⟨_, (true), rS, H', ⟨by first | omega | exact Nat.le_refl _⟩, ⟨bP BK660⟩, ⟨bP BK661⟩, ⟨bP BK662⟩, ⟨bZ HB⟩⟩
 case rest =>
  clear HC3
  try clear c1
  try clear c2
  try clear p2
  try clear c3
  try clear c6
  try clear c8
  try clear c10
  try clear c11
  try clear c12
  try clear c13
  try clear c16
  try clear c20
  try clear c21
  try clear c24
  try clear c29
  try clear c30
  try clear c33
  try clear c36
  try clear c37
  try clear hcz14_0
  try clear hcz14_1
  try clear hcz14_2
  try clear hcz17_0
  try clear hcz17_1
  try clear hcz17_2
  try clear hcz19_0
  try clear hcz19_1
  try clear hcz19_2
  try clear hcz22_0
  try clear hcz22_1
  try clear hcz22_2
  try clear hcz25_0
  try clear hcz25_1
  try clear hcz25_2
  try clear hcz27_0
  try clear hcz27_1
  try clear hcz27_2
  try clear hcz28_0
  try clear hcz28_1
  try clear hcz28_2
  try clear hcz31_0
  try clear hcz31_1
  try clear hcz31_2
  try clear hcz34_0
  try clear hcz34_1
  try clear hcz34_2
  try clear hcz38_0
  try clear hcz38_1
  try clear hcz38_2
  try clear hfz14_0
  try clear hfz14_1
  try clear hfz14_2
  try clear hfz17_0
  try clear hfz17_1
  try clear hfz17_2
  try clear hfz19_0
  try clear hfz19_1
  try clear hfz19_2
  try clear hfz22_0
  try clear hfz22_1
  try clear hfz22_2
  try clear hfz25_0
  try clear hfz25_1
  try clear hfz25_2
  try clear hfz27_0
  try clear hfz27_1
  try clear hfz27_2
  try clear hfz28_0
  try clear hfz28_1
  try clear hfz28_2
  try clear hfz31_0
  try clear hfz31_1
  try clear hfz31_2
  try clear hfz34_0
  try clear hfz34_1
  try clear hfz34_2
  try clear hfz38_0
  try clear hfz38_1
  try clear hfz38_2
  obtain ⟨kq, x21_2, rfl, HA, HJ2, BK660, BK661, BK662, HB⟩ := hcut
  cases kq with
  | zero => exact absurd HA.out (by simp [spec_Pairing.j0])
  | succ kj2 =>
   have H := HA.out
   clear HA
   simp only [spec_Pairing.j0] at H
   by_cases c40 : x21_2 = true
   ·subst c40
    rw [if_pos rfl] at H
    simp only [Option.some.injEq, Prod.mk.injEq] at H
    obtain ⟨rfl, rfl⟩ := H
    obtain ⟨hnb41, hnc41⟩ := nB NB662_660
    obtain ⟨hnb42, hnc42⟩ := nB NB662_661
    obtain ⟨hcz43_0, hcz43_1, hfz43_0, hfz43_1⟩ := bK2 (w := wc) BK662
    go_wp2
    refine rC gb662 75 #[.int .i64 1, .int .i64 0] (bU BK662) Tryz.underlying75 ?_
    exact ⟨rR, bZ HB⟩
   ·replace c40 := Bool.eq_false_iff.mpr c40
    subst c40
    rw [if_neg (show ¬ (false = true) by decide)] at H
    replace H := Option.bind_eq_some_iff.mp H
    obtain ⟨⟨t665, t666⟩, A440, H⟩ := H
    have A44 := Aside0.mk A440
    clear A440
    replace H := Option.bind_eq_some_iff.mp H
    obtain ⟨⟨t668, t669⟩, A450, H⟩ := H
    have A45 := Aside0.mk A450
    clear A450
    replace H := Option.bind_eq_some_iff.mp H
    obtain ⟨⟨t670, t671⟩, A460, H⟩ := H
    have A46 := Aside0.mk A460
    clear A460
    replace H := Option.bind_eq_some_iff.mp H
    obtain ⟨⟨t672, t673⟩, A470, H⟩ := H
    have A47 := Aside0.mk A470
    clear A470
    replace H := Option.bind_eq_some_iff.mp H
    obtain ⟨⟨t674, t675⟩, A480, H⟩ := H
    have A48 := Aside0.mk A480
    clear A480
    simp only [Option.some.injEq, Prod.mk.injEq] at H
    obtain ⟨rfl, rfl⟩ := H
    obtain ⟨hnb49, hnc49⟩ := nB NB660_661
    obtain ⟨hnb50, hnc50⟩ := nB NB660_662
    obtain ⟨hcz51_0, hcz51_1, hcz51_2, hfz51_0, hfz51_1, hfz51_2⟩ := bK3 (w := wc) BK660
    obtain ⟨hnb52, hnc52⟩ := nB NB661_662
    obtain ⟨hcz53_0, hcz53_1, hcz53_2, hfz53_0, hfz53_1, hfz53_2⟩ := bK3 (w := wc) BK661
    try go_wp2_with (first | (refine gC (some 25) Tryz.func118 #[.agg #[.int .i64 a0_0, .int .i64 a0_1, .bool a0_2], .agg #[.int .i64 a1_0, .int .i64 a1_1, .bool a1_2]] ?_; (with_reducible refine (spec_Miller.calls kj2 a0_0 a0_1 a0_2 a1_0 a1_1 a1_2 t665 t666 _ A44.out).mono ?_); rintro e w54 ⟨rfl, hb⟩; refine ⟨_, rfl, ?_⟩; replace BK660 := bB BK660 hb; replace BK661 := bB BK661 hb; replace BK662 := bB BK662 hb; replace HB := bS HB hb; (try clear hb)) | (refine gB 5 #[.int .i64 0, .int .i64 0] 75 ?_; intro gb667 hg w55 BK667 hb; have GW667 := bG HB hg; replace HB := bS HB hb; obtain ⟨NB660_667, NB667_660⟩ := bN BK660 hg; replace BK660 := bB BK660 hb; obtain ⟨NB661_667, NB667_661⟩ := bN BK661 hg; replace BK661 := bB BK661 hb; obtain ⟨NB662_667, NB667_662⟩ := bN BK662 hg; replace BK662 := bB BK662 hb; clear hb hg; obtain ⟨hnb56, hnc56⟩ := nB NB667_660; obtain ⟨hnb57, hnc57⟩ := nB NB667_661; obtain ⟨hnb58, hnc58⟩ := nB NB667_662; obtain ⟨hcz59_0, hcz59_1, hfz59_0, hfz59_1⟩ := bK2 (w := w55) BK667))
    obtain ⟨w60, hW_⟩ : ∃ W_ : World, W_ = ((w55.setCell ⟨gb667, 0, none⟩ (.int .i64 t665)).setCell ⟨gb667, 1, none⟩ (.int .i64 t666)) := ⟨_, rfl⟩
    replace BK660 := bW hW_ BK660
    replace BK661 := bW hW_ BK661
    replace BK662 := bW hW_ BK662
    replace BK667 := bX hW_ 75 #[.int .i64 t665, .int .i64 t666] BK667
    replace HB := zW hW_ HB
    rw [← hW_]
    clear hW_
    replace BK660 := Aside0.mk (blk_drew BK660.out)
    replace BK661 := Aside0.mk (blk_drew BK661.out)
    replace BK662 := Aside0.mk (blk_drew BK662.out)
    replace BK667 := Aside0.mk (blk_drew BK667.out)
    replace HB := Aside0.mk (below_drew1 HB.out)
    refine start_ (n := 7) (S := fun w' => SQ2 w' gb667 (.int .i64 t665) (.int .i64 t666)) (ds := []) #[false, false, false, false, false, false, false] (by kernel_rfl) rfl rfl (bT2 BK667) (fun hHeld => ?_)
    generalize w60.drew = w61 at BK660 BK661 BK662 BK667 HB hHeld ⊢
    refine tJ 0 (some 26) hHeld ?_
    refine tJ 2 (some 28) hHeld ?_
    refine one_ (i := 1) (N := some 27) #[true, true, true, false, false, false, false] rfl rfl (by kernel_rfl) (by decide) (fun K hK => ?_)
    refine gO Tryz.func121 #[.agg #[.int .i64 t665, .int .i64 t666]] ?_
    with_reducible refine (spec_TwoTurn.calls t665 t666 t668 t669 _ A45.out).mono ?_
    rintro e w62 ⟨rfl, hb⟩
    refine ⟨_, rfl, ?_⟩
    replace BK660 := bB BK660 hb
    replace BK661 := bB BK661 hb
    replace BK662 := bB BK662 hb
    replace BK667 := bB BK667 hb
    replace HB := bS HB hb
    (try clear hb)
    refine hK.out _ _ (bT2 BK667) (fun hHeld => ?_)
    clear hK K
    refine nO (some 27) ?_
    refine one_ (i := 3) (N := some 29) #[true, true, true, true, false, false, false] rfl rfl (by kernel_rfl) (by decide) (fun K hK => ?_)
    refine gO Tryz.func122 #[.agg #[.int .i64 t665, .int .i64 t666]] ?_
    with_reducible refine (spec_TwoInv.calls kj2 t665 t666 t670 t671 _ A46.out).mono ?_
    rintro e w63 ⟨rfl, hb⟩
    refine ⟨_, rfl, ?_⟩
    replace BK660 := bB BK660 hb
    replace BK661 := bB BK661 hb
    replace BK662 := bB BK662 hb
    replace BK667 := bB BK667 hb
    replace HB := bS HB hb
    (try clear hb)
    refine hK.out _ _ (bT2 BK667) (fun hHeld => ?_)
    clear hK K
    refine nO (some 29) ?_
    refine one_ (i := 4) (N := some 30) #[true, true, true, true, true, false, false] rfl rfl (by kernel_rfl) (by decide) (fun K hK => ?_)
    refine gO Tryz.func120 #[.agg #[.int .i64 t668, .int .i64 t669], .agg #[.int .i64 t670, .int .i64 t671]] ?_
    with_reducible refine (spec_TwoMul.calls t668 t669 t670 t671 t672 t673 _ A47.out).mono ?_
    rintro e w64 ⟨rfl, hb⟩
    refine ⟨_, rfl, ?_⟩
    replace BK660 := bB BK660 hb
    replace BK661 := bB BK661 hb
    replace BK662 := bB BK662 hb
    replace BK667 := bB BK667 hb
    replace HB := bS HB hb
    (try clear hb)
    refine hK.out _ _ (bT2 BK667) (fun hHeld => ?_)
    clear hK K
    refine nO (some 30) ?_
    refine one_ (i := 5) (N := some 31) #[true, true, true, true, true, true, false] rfl rfl (by kernel_rfl) (by decide) (fun K hK => ?_)
    refine gO Tryz.func119 #[.agg #[.int .i64 t672, .int .i64 t673], .int .i64 12] ?_
    with_reducible refine (spec_TwoPow.calls kj2 t672 t673 12 t674 t675 _ A48.out).mono ?_
    rintro e w65 ⟨rfl, hb⟩
    refine ⟨_, rfl, ?_⟩
    replace BK660 := bB BK660 hb
    replace BK661 := bB BK661 hb
    replace BK662 := bB BK662 hb
    replace BK667 := bB BK667 hb
    replace HB := bS HB hb
    (try clear hb)
    refine hK.out _ _ (bT2 BK667) (fun hHeld => ?_)
    clear hK K
    refine nO (some 31) ?_
    refine one_ (i := 6) (N := none) #[true, true, true, true, true, true, true] rfl rfl (by kernel_rfl) (by decide) (fun K hK => ?_)
    have hs66 : w65.cell? ⟨gb662, 0, none⟩ = some (.int .i64 0) := bc BK662 0
    have hfs66 := blk_frozen BK662.out 0
    have hns66_0 := NB660_662.out
    have hns66_1 := NB661_662.out
    have hns66_3 := NB667_662.out
    have hms66_0 := NB662_660.out
    have hms66_1 := NB662_661.out
    have hms66_3 := NB662_667.out
    have hs67 : w65.cell? ⟨gb662, 1, none⟩ = some (.int .i64 0) := bc BK662 1
    have hfs67 := blk_frozen BK662.out 1
    have hns67_0 := NB660_662.out
    have hns67_1 := NB661_662.out
    have hns67_3 := NB667_662.out
    have hms67_0 := NB662_660.out
    have hms67_1 := NB662_661.out
    have hms67_3 := NB662_667.out
    refine skip_ (w1 := ?_) (by rfl) rfl ?_ ?_
    rotate_left
    ·go_simp
     rfl
    refine hK.out _ _ ⟨((cell_far (p := ⟨gb662, _, none⟩) NB667_662.out _).trans (((cell_far (p := ⟨gb662, _, none⟩) NB667_662.out _).trans (hHeld.1)))), ((cell_far (p := ⟨gb662, _, none⟩) NB667_662.out _).trans (((cell_far (p := ⟨gb662, _, none⟩) NB667_662.out _).trans (hHeld.2))))⟩ (fun hHeld => ?_)
    clear hK K
    refine done_ (by kernel_rfl) ?_
    try go_wp2
    refine rC gb662 75 #[.int .i64 t674, .int .i64 t675] (bU BK662) Tryz.underlying75 ?_
    exact ⟨rR, bZ HB⟩
end Go.Proofs.YtkdmplfldfagnaaGreatDoor.Pf
end
section
namespace Go.Proofs.YtkdmplfldfagnaaGreatDoor.Pf
open Go.RowKit Go.Proofs.YtkdmplfldfagnaaGreatDoorW.PrintWords Go.Proofs.YtkdmplfldfagnaaGreatDoorW.PrintLast Go.Proofs.YtkdmplfldfagnaaGreatDoorW.PrintMore
attribute [local go_sem] max2_int min2_int max_two min_two max_three min_three max_four min_four   -- for this text's walks alone
set_option linter.unusedVariables false
set_option linter.unusedSimpArgs false
attribute [local go_sem high] eqA75
def spec_SigOk.j0 : Nat → ByteArray → Bool → Int → Int → Bool → Int → Int → Bool → Option (Bool)
 | 0, _, _, _, _, _, _, _, _ => none
 | k + 1, x1, x22, x677000, x677001, x677002, x678000, x678001, x678002 => if x22 = true then (some false) else ((spec_Base.f).bind fun bt680 => ((spec_Pairing.f k x678000 x678001 x678002 bt680.1 bt680.2.1 bt680.2.2).bind fun bt683 => ((spec_HashPoint.f k x1).bind fun bt685 => ((spec_Pairing.f k bt685.1 bt685.2.1 bt685.2.2 x677000 x677001 x677002).bind fun bt688 => (some (bt683.1 == bt688.1 && (bt683.2 == bt688.2)))))))
def spec_SigOk.f (k : Nat) (a0_0 : Int) (a0_1 : Int) (a0_2 : Bool) (a1 : ByteArray) (a2_0 : Int) (a2_1 : Int) (a2_2 : Bool) : Option (Bool) := (spec_InGroup.f k a0_0 a0_1 a0_2).bind fun t678 => (if t678 = true then ((spec_InGroup.f k a2_0 a2_1 a2_2).bind fun t679 => (if t679 = true then (if a0_2 = true then (spec_SigOk.j0 k a1 true a0_0 a0_1 a0_2 a2_0 a2_1 a2_2) else (spec_SigOk.j0 k a1 a2_2 a0_0 a0_1 a0_2 a2_0 a2_1 a2_2)) else (spec_SigOk.j0 k a1 true a0_0 a0_1 a0_2 a2_0 a2_1 a2_2))) else (spec_SigOk.j0 k a1 true a0_0 a0_1 a0_2 a2_0 a2_1 a2_2))
def spec_SigOk.T3 : Bool × List (List Nat × List Nat) := (true, [([], []), ([], []), ([0, 1, 1], [0, 1]), ([], []), ([3, 2], [3]), ([], []), ([4, 5, 4], [4, 5]), ([2, 6], [2, 6]), ([7, 6, 0, 1, 2, 3, 4, 5, 6, 7], [7])])
def spec_SigOk.B3 : List Nat := [0, 0, 3, 0, 15, 0, 63, 127, 255]
theorem spec_SigOk.tab3 : rtab .any (opsOf Tryz.f23 3) = spec_SigOk.T3 := by kernel_rfl
theorem spec_SigOk.bits3 : waitsOk spec_SigOk.T3.2 spec_SigOk.B3 = true := by kernel_rfl
set_option maxHeartbeats 8000000 in
set_option maxRecDepth 100000 in
theorem spec_SigOk.calls (k : Nat) (a0_0 : Int) (a0_1 : Int) (a0_2 : Bool) (a1 : ByteArray) (a2_0 : Int) (a2_1 : Int) (a2_2 : Bool) (r : Bool) (w : World) (h : spec_SigOk.f k a0_0 a0_1 a0_2 a1 a2_0 a2_1 a2_2 = some r) :
  Calls Tryz.prog 23 #[.agg #[.int .i64 a0_0, .int .i64 a0_1, .bool a0_2], .string a1, .agg #[.int .i64 a2_0, .int .i64 a2_1, .bool a2_2]] w fun e w' => e = .returned (.bool r) ∧ Below w.heap.size w w' := by
 have hu28 := Tryz.underlying28
 have HB := Aside0.mk (Below.refl w.heap.size w)
 have H : ((spec_InGroup.f k a0_0 a0_1 a0_2).bind fun t678 => (if t678 = true then ((spec_InGroup.f k a2_0 a2_1 a2_2).bind fun t679 => (if t679 = true then (if a0_2 = true then (spec_SigOk.j0 k a1 true a0_0 a0_1 a0_2 a2_0 a2_1 a2_2) else (spec_SigOk.j0 k a1 a2_2 a0_0 a0_1 a0_2 a2_0 a2_1 a2_2)) else (spec_SigOk.j0 k a1 true a0_0 a0_1 a0_2 a2_0 a2_1 a2_2))) else (spec_SigOk.j0 k a1 true a0_0 a0_1 a0_2 a2_0 a2_1 a2_2))) = some r := h
 clear h
 have HC4 := Aside0.mk H
 clear H
 go_enter Tryz.func23, Tryz.ntmps23
 go_upto_region 1 with (first | (refine gB 3 #[.int .i64 a0_0, .int .i64 a0_1, .bool a0_2] 28 ?_; intro gb676 hg w5 BK676 hb; have GW676 := bG HB hg; replace HB := bS HB hb; clear hb hg) | (refine gB 5 #[.int .i64 a2_0, .int .i64 a2_1, .bool a2_2] 28 ?_; intro gb677 hg w6 BK677 hb; have GW677 := bG HB hg; replace HB := bS HB hb; obtain ⟨NB676_677, NB677_676⟩ := bN BK676 hg; replace BK676 := bB BK676 hb; clear hb hg))
 (try simp only [Act.put, List.setIfInBounds_toArray, List.set_cons_zero, List.set_cons_succ])
 go_cut [22] (fun v22 wc => ∃ (kq : Nat) (x22_3 : Bool), v22 = .bool x22_3 ∧ Aside0 (spec_SigOk.j0 kq a1 x22_3 a0_0 a0_1 a0_2 a2_0 a2_1 a2_2 = some r) ∧ Aside0 (kq ≤ k) ∧ Aside0 (wc.heap[gb676]? = some (.cells #[.int .i64 a0_0, .int .i64 a0_1, .bool a0_2] 28 (0, 0))) ∧ Aside0 (wc.heap[gb677]? = some (.cells #[.int .i64 a2_0, .int .i64 a2_1, .bool a2_2] 28 (0, 0))) ∧ Aside0 (Below w.heap.size w wc))
 case first =>
  have H := HC4.out
  clear HC4
  replace H := Option.bind_eq_some_iff.mp H
  obtain ⟨t678, A70, H⟩ := H
  have A7 := Aside0.mk A70
  clear A70
  by_cases c8 : t678 = true
  ·subst c8
   rw [if_pos rfl] at H
   replace H := Option.bind_eq_some_iff.mp H
   obtain ⟨t679, A90, H⟩ := H
   have A9 := Aside0.mk A90
   clear A90
   by_cases c10 : t679 = true
   ·subst c10
    rw [if_pos rfl] at H
    by_cases c11 : a0_2 = true
    ·subst c11
     rw [if_pos rfl] at H
     have H' := Aside0.mk H
     clear H
     obtain ⟨hnb12, hnc12⟩ := nB NB676_677
     obtain ⟨hcz13_0, hcz13_1, hcz13_2, hfz13_0, hfz13_1, hfz13_2⟩ := bK3 (w := w6) BK676
     go_wp2_with (first | (refine gC (some 8) Tryz.func67 #[.agg #[.int .i64 a0_0, .int .i64 a0_1, .bool true]] ?_; (with_reducible refine (spec_InGroup.calls k a0_0 a0_1 true true _ A7.out).mono ?_); rintro e w14 ⟨rfl, hb⟩; refine ⟨_, rfl, ?_⟩; replace BK676 := bB BK676 hb; replace BK677 := bB BK677 hb; replace HB := bS HB hb; (try clear hb); obtain ⟨hcz15_0, hcz15_1, hcz15_2, hfz15_0, hfz15_1, hfz15_2⟩ := bK3 (w := w14) BK677) | (go_at_call 67; (with_reducible refine (spec_InGroup.calls k a2_0 a2_1 a2_2 true _ A9.out).mono ?_); rintro e w16 ⟨rfl, hb⟩; replace BK676 := bB BK676 hb; replace BK677 := bB BK677 hb; replace HB := bS HB hb; (try clear hb); obtain ⟨hcz17_0, hcz17_1, hcz17_2, hfz17_0, hfz17_1, hfz17_2⟩ := bK3 (w := w16) BK676))
     go_meet
     case rel => exact ⟨_, (true), rS, H', ⟨by first | omega | exact Nat.le_refl _⟩, ⟨bP BK676⟩, ⟨bP BK677⟩, ⟨bZ HB⟩⟩
    ·replace c11 := Bool.eq_false_iff.mpr c11
     subst c11
     rw [if_neg (show ¬ (false = true) by decide)] at H
     have H' := Aside0.mk H
     clear H
     obtain ⟨hnb18, hnc18⟩ := nB NB676_677
     obtain ⟨hcz19_0, hcz19_1, hcz19_2, hfz19_0, hfz19_1, hfz19_2⟩ := bK3 (w := w6) BK676
     go_wp2_with (first | (refine gC (some 8) Tryz.func67 #[.agg #[.int .i64 a0_0, .int .i64 a0_1, .bool false]] ?_; (with_reducible refine (spec_InGroup.calls k a0_0 a0_1 false true _ A7.out).mono ?_); rintro e w20 ⟨rfl, hb⟩; refine ⟨_, rfl, ?_⟩; replace BK676 := bB BK676 hb; replace BK677 := bB BK677 hb; replace HB := bS HB hb; (try clear hb); obtain ⟨hcz21_0, hcz21_1, hcz21_2, hfz21_0, hfz21_1, hfz21_2⟩ := bK3 (w := w20) BK677) | (go_at_call 67; (with_reducible refine (spec_InGroup.calls k a2_0 a2_1 a2_2 true _ A9.out).mono ?_); rintro e w22 ⟨rfl, hb⟩; replace BK676 := bB BK676 hb; replace BK677 := bB BK677 hb; replace HB := bS HB hb; (try clear hb); obtain ⟨hcz23_0, hcz23_1, hcz23_2, hfz23_0, hfz23_1, hfz23_2⟩ := bK3 (w := w22) BK676; obtain ⟨hcz24_0, hcz24_1, hcz24_2, hfz24_0, hfz24_1, hfz24_2⟩ := bK3 (w := w22) BK677))
     go_meet
     case rel => exact ⟨_, (a2_2), rS, H', ⟨by first | omega | exact Nat.le_refl _⟩, ⟨bP BK676⟩, ⟨bP BK677⟩, ⟨bZ HB⟩⟩
   ·replace c10 := Bool.eq_false_iff.mpr c10
    subst c10
    rw [if_neg (show ¬ (false = true) by decide)] at H
    have H' := Aside0.mk H
    clear H
    obtain ⟨hnb25, hnc25⟩ := nB NB676_677
    obtain ⟨hcz26_0, hcz26_1, hcz26_2, hfz26_0, hfz26_1, hfz26_2⟩ := bK3 (w := w6) BK676
    go_wp2_with (first | (refine gC (some 8) Tryz.func67 #[.agg #[.int .i64 a0_0, .int .i64 a0_1, .bool a0_2]] ?_; (with_reducible refine (spec_InGroup.calls k a0_0 a0_1 a0_2 true _ A7.out).mono ?_); rintro e w27 ⟨rfl, hb⟩; refine ⟨_, rfl, ?_⟩; replace BK676 := bB BK676 hb; replace BK677 := bB BK677 hb; replace HB := bS HB hb; (try clear hb); obtain ⟨hcz28_0, hcz28_1, hcz28_2, hfz28_0, hfz28_1, hfz28_2⟩ := bK3 (w := w27) BK677) | (go_at_call 67; (with_reducible refine (spec_InGroup.calls k a2_0 a2_1 a2_2 false _ A9.out).mono ?_); rintro e w29 ⟨rfl, hb⟩; replace BK676 := bB BK676 hb; replace BK677 := bB BK677 hb; replace HB := bS HB hb; (try clear hb)))
    go_meet
    case rel => exact ⟨_, (true), rS, H', ⟨by first | omega | exact Nat.le_refl _⟩, ⟨bP BK676⟩, ⟨bP BK677⟩, ⟨bZ HB⟩⟩
  ·replace c8 := Bool.eq_false_iff.mpr c8
   subst c8
   rw [if_neg (show ¬ (false = true) by decide)] at H
   have H' := Aside0.mk H
   clear H
   obtain ⟨hnb30, hnc30⟩ := nB NB676_677
   obtain ⟨hcz31_0, hcz31_1, hcz31_2, hfz31_0, hfz31_1, hfz31_2⟩ := bK3 (w := w6) BK676
   go_wp2_with (first | (refine gC (some 8) Tryz.func67 #[.agg #[.int .i64 a0_0, .int .i64 a0_1, .bool a0_2]] ?_; (with_reducible refine (spec_InGroup.calls k a0_0 a0_1 a0_2 false _ A7.out).mono ?_); rintro e w32 ⟨rfl, hb⟩; refine ⟨_, rfl, ?_⟩; replace BK676 := bB BK676 hb; replace BK677 := bB BK677 hb; replace HB := bS HB hb; (try clear hb)))
   go_meet
   case rel => exact ⟨_, (true), rS, H', ⟨by first | omega | exact Nat.le_refl _⟩, ⟨bP BK676⟩, ⟨bP BK677⟩, ⟨bZ HB⟩⟩
 case rest =>
  clear HC4
  try clear c1
  try clear c2
  try clear p2
  try clear c3
  try clear c6
  try clear c8
  try clear c10
  try clear c11
  try clear c12
  try clear c18
  try clear c23
  try clear c25
  try clear c30
  try clear hcz13_0
  try clear hcz13_1
  try clear hcz13_2
  try clear hcz15_0
  try clear hcz15_1
  try clear hcz15_2
  try clear hcz17_0
  try clear hcz17_1
  try clear hcz17_2
  try clear hcz19_0
  try clear hcz19_1
  try clear hcz19_2
  try clear hcz21_0
  try clear hcz21_1
  try clear hcz21_2
  try clear hcz23_0
  try clear hcz23_1
  try clear hcz23_2
  try clear hcz24_0
  try clear hcz24_1
  try clear hcz24_2
  try clear hcz26_0
  try clear hcz26_1
  try clear hcz26_2
  try clear hcz28_0
  try clear hcz28_1
  try clear hcz28_2
  try clear hcz31_0
  try clear hcz31_1
  try clear hcz31_2
  try clear hfz13_0
  try clear hfz13_1
  try clear hfz13_2
  try clear hfz15_0
  try clear hfz15_1
  try clear hfz15_2
  try clear hfz17_0
  try clear hfz17_1
  try clear hfz17_2
  try clear hfz19_0
  try clear hfz19_1
  try clear hfz19_2
  try clear hfz21_0
  try clear hfz21_1
  try clear hfz21_2
  try clear hfz23_0
  try clear hfz23_1
  try clear hfz23_2
  try clear hfz24_0
  try clear hfz24_1
  try clear hfz24_2
  try clear hfz26_0
  try clear hfz26_1
  try clear hfz26_2
  try clear hfz28_0
  try clear hfz28_1
  try clear hfz28_2
  try clear hfz31_0
  try clear hfz31_1
  try clear hfz31_2
  obtain ⟨kq, x22_3, rfl, HA, HJ3, BK676, BK677, HB⟩ := hcut
  cases kq with
  | zero => exact absurd HA.out (by simp [spec_SigOk.j0])
  | succ kj3 =>
   have H := HA.out
   clear HA
   simp only [spec_SigOk.j0] at H
   by_cases c33 : x22_3 = true
   ·subst c33
    rw [if_pos rfl] at H
    obtain rfl := Option.some.inj H
    go_wp2
    go_ret
    exact ⟨rR, bZ HB⟩
   ·replace c33 := Bool.eq_false_iff.mpr c33
    subst c33
    rw [if_neg (show ¬ (false = true) by decide)] at H
    replace H := Option.bind_eq_some_iff.mp H
    obtain ⟨⟨t680, t681, t682⟩, A340, H⟩ := H
    have A34 := Aside0.mk A340
    clear A340
    replace H := Option.bind_eq_some_iff.mp H
    obtain ⟨⟨t683, t684⟩, A350, H⟩ := H
    have A35 := Aside0.mk A350
    clear A350
    replace H := Option.bind_eq_some_iff.mp H
    obtain ⟨⟨t685, t686, t687⟩, A360, H⟩ := H
    have A36 := Aside0.mk A360
    clear A360
    replace H := Option.bind_eq_some_iff.mp H
    obtain ⟨⟨t688, t689⟩, A370, H⟩ := H
    have A37 := Aside0.mk A370
    clear A370
    obtain rfl := Option.some.inj H
    try go_wp2
    replace BK676 := Aside0.mk (blk_drew BK676.out)
    replace BK677 := Aside0.mk (blk_drew BK677.out)
    replace HB := Aside0.mk (below_drew1 HB.out)
    refine start_ (n := 9) (S := fun w' => SP3 w' gb677 (.int .i64 a2_0) (.int .i64 a2_1) (.bool a2_2) (SQ3 w' gb676 (.int .i64 a0_0) (.int .i64 a0_1) (.bool a0_2))) (ds := []) #[false, false, false, false, false, false, false, false, false] (by kernel_rfl) rfl rfl (bS3 BK677 (bT3 BK676)) (fun hHeld => ?_); refine with_tabW spec_SigOk.tab3 spec_SigOk.bits3 (fun HT_ HW_ => ?_)
    generalize wc.drew = w38 at BK676 BK677 HB hHeld ⊢
    refine pI 3 (some 26) HT_.out ?_
    refine tI6 0 (some 23) HT_.out HW_.out hHeld ?_
    refine tI6 5 (some 28) HT_.out HW_.out hHeld ?_
    refine oI 1 (some 24) HT_.out (fun K hK => ?_)
    refine gO Tryz.func66 #[] ?_
    with_reducible refine (spec_Base.calls  t680 t681 t682 _ A34.out).mono ?_
    rintro e w39 ⟨rfl, hb⟩
    refine ⟨_, rfl, ?_⟩
    replace BK676 := bB BK676 hb
    replace BK677 := bB BK677 hb
    replace HB := bS HB hb
    (try clear hb)
    refine hK.out _ _ (bS3 BK677 (bT3 BK676)) (fun hHeld => ?_)
    clear hK K
    refine nO (some 24) ?_
    refine oI 2 (some 25) HT_.out (fun K hK => ?_)
    refine gO Tryz.func68 #[.agg #[.int .i64 a2_0, .int .i64 a2_1, .bool a2_2], .agg #[.int .i64 t680, .int .i64 t681, .bool t682]] ?_
    with_reducible refine (spec_Pairing.calls kj3 a2_0 a2_1 a2_2 t680 t681 t682 t683 t684 _ A35.out).mono ?_
    rintro e w40 ⟨rfl, hb⟩
    refine ⟨_, rfl, ?_⟩
    replace BK676 := bB BK676 hb
    replace BK677 := bB BK677 hb
    replace HB := bS HB hb
    (try clear hb)
    refine hK.out _ _ (bS3 BK677 (bT3 BK676)) (fun hHeld => ?_)
    clear hK K
    refine nO (some 25) ?_
    refine oI 4 (some 27) HT_.out (fun K hK => ?_)
    refine gO Tryz.func22 #[.string a1] ?_
    with_reducible refine (spec_HashPoint.calls kj3 a1 t685 t686 t687 _ A36.out).mono ?_
    rintro e w41 ⟨rfl, hb⟩
    refine ⟨_, rfl, ?_⟩
    replace BK676 := bB BK676 hb
    replace BK677 := bB BK677 hb
    replace HB := bS HB hb
    (try clear hb)
    refine hK.out _ _ (bS3 BK677 (bT3 BK676)) (fun hHeld => ?_)
    clear hK K
    refine nO (some 27) ?_
    refine oI 6 (some 29) HT_.out (fun K hK => ?_)
    refine gO Tryz.func68 #[.agg #[.int .i64 t685, .int .i64 t686, .bool t687], .agg #[.int .i64 a0_0, .int .i64 a0_1, .bool a0_2]] ?_
    with_reducible refine (spec_Pairing.calls kj3 t685 t686 t687 a0_0 a0_1 a0_2 t688 t689 _ A37.out).mono ?_
    rintro e w42 ⟨rfl, hb⟩
    refine ⟨_, rfl, ?_⟩
    replace BK676 := bB BK676 hb
    replace BK677 := bB BK677 hb
    replace HB := bS HB hb
    (try clear hb)
    refine hK.out _ _ (bS3 BK677 (bT3 BK676)) (fun hHeld => ?_)
    clear hK K
    refine nO (some 29) ?_
    refine pI 7 (some 30) HT_.out ?_
    refine pI 8 (some 6) HT_.out ?_
    refine done_ (done_of HT_.out (by kernel_rfl)) ?_
    try go_wp2
    go_ret
    exact ⟨rR, bZ HB⟩
end Go.Proofs.YtkdmplfldfagnaaGreatDoor.Pf
end
section
namespace Go.Proofs.YtkdmplfldfagnaaGreatDoor.Pf
open Go.RowKit Go.Proofs.YtkdmplfldfagnaaGreatDoorW.PrintWords Go.Proofs.YtkdmplfldfagnaaGreatDoorW.PrintLast Go.Proofs.YtkdmplfldfagnaaGreatDoorW.PrintMore
attribute [local go_sem] max2_int min2_int max_two min_two max_three min_three max_four min_four   -- for this text's walks alone
set_option linter.unusedVariables false
set_option linter.unusedSimpArgs false
def spec_SumPoints.l0 : Nat → List (S28) → Int → Int → Int → Bool → Option (Int × Int × Bool)
 | 0, _, _, _, _, _ => none
 | k + 1, x0, x4, x812000, x812001, x812002 => if x4 < (x0.length : Int) then (if 0 ≤ x4 then ((spec_PointAdd.f k x812000 x812001 x812002 ((rd_T28 x0 x4).f0) ((rd_T28 x0 x4).f1) ((rd_T28 x0 x4).f2)).bind fun bt813 => (spec_SumPoints.l0 k x0 (wrap64 (x4 + 1)) bt813.1 bt813.2.1 bt813.2.2)) else (none)) else (some (x812000, x812001, x812002))
def spec_SumPoints.f (k : Nat) (l0 : List (S28)) : Option (Int × Int × Bool) := (spec_l07Zero.f).bind fun bt808 => (spec_SumPoints.l0 k l0 0 bt808.1 bt808.2.1 bt808.2.2)
set_option maxHeartbeats 8000000 in
set_option maxRecDepth 100000 in
theorem spec_SumPoints.calls (k : Nat) (A0 : Option Addr) (c0 : Nat) (l0 : List (S28)) (r1 : Int) (r2 : Int) (r3 : Bool) (w : World) (hr0 : Kd.C k28 w A0 l0.length l0) (hc0 : l0.length ≤ c0) (h : spec_SumPoints.f k l0 = some (r1, r2, r3)) :
  Calls Tryz.prog 54 #[.slice A0 l0.length c0] w fun e w' => e = .returned (.agg #[.int .i64 r1, .int .i64 r2, .bool r3]) ∧ Below w.heap.size w w' := by
 have hu28 := Tryz.underlying28
 have HR0 := Aside0.mk hr0
 have HC0 := Aside0.mk hc0
 clear hr0 hc0
 have HB := Aside0.mk (Below.refl w.heap.size w)
 have H : ((spec_l07Zero.f).bind fun bt808 => (spec_SumPoints.l0 k l0 0 bt808.1 bt808.2.1 bt808.2.2)) = some (r1, r2, r3) := h
 clear h
 replace H := Option.bind_eq_some_iff.mp H
 obtain ⟨⟨t808, t809, t810⟩, A20, H⟩ := H
 have A2 := Aside0.mk A20
 clear A20
 have H' := Aside0.mk H
 clear H
 go_enter Tryz.func54, Tryz.ntmps54
 go_wp2_with (first | (refine gB 2 #[.int .i64 0, .int .i64 0, .bool false] 28 ?_; intro gb807 hg w3 BK807 hb; have GW807 := bG HB hg; replace HB := bS HB hb; clear hb hg) | (refine gC (some 5) Tryz.func81 #[] ?_; (with_reducible refine (spec_l07Zero.calls  t808 t809 t810 _ A2.out).mono ?_); rintro e w4 ⟨rfl, hb⟩; refine ⟨_, rfl, ?_⟩; replace BK807 := bB BK807 hb; replace HB := bS HB hb; (try clear hb)) | (refine gB 3 #[.int .i64 0, .int .i64 0, .bool false] 28 ?_; intro gb811 hg w5 BK811 hb; have GW811 := bG HB hg; replace HB := bS HB hb; obtain ⟨NB807_811, NB811_807⟩ := bN BK807 hg; replace BK807 := bB BK807 hb; clear hb hg; obtain ⟨hnb6, hnc6⟩ := nB NB811_807; obtain ⟨hcz7_0, hcz7_1, hcz7_2, hfz7_0, hfz7_1, hfz7_2⟩ := bK3 (w := w5) BK811))
 go_loopg [4] k (fun kq v4 w' => ∃ (x4_1 : Int) (x812000_1 : Int) (x812001_1 : Int) (x812002_1 : Bool), v4 = .int .i64 x4_1 ∧ Aside0 (spec_SumPoints.l0 kq l0 x4_1 x812000_1 x812001_1 x812002_1 = some (r1, r2, r3)) ∧ Aside0 (kq ≤ k) ∧ Aside0 (w'.heap[gb807]? = some (.cells #[.int .i64 0, .int .i64 0, .bool false] 28 (0, 0))) ∧ Aside0 (w'.heap[gb811]? = some (.cells #[.int .i64 x812000_1, .int .i64 x812001_1, .bool x812002_1] 28 (0, 0))) ∧ Aside0 (Below w.heap.size w w'))
 case atStart => exact ⟨(0), (t808), (t809), (t810), rS, H', ⟨Nat.le_refl _⟩, ⟨bP BK807⟩, ⟨bU BK811⟩, ⟨bZ HB⟩⟩
 case round =>
  clear H'
  try clear p2
  try clear c5
  try clear c6
  try clear hcz7_0
  try clear hcz7_1
  try clear hcz7_2
  try clear hfz7_0
  try clear hfz7_1
  try clear hfz7_2
  obtain ⟨x4_1, x812000_1, x812001_1, x812002_1, rfl, HA, HK1, BK807, BK811, HB⟩ := hrel
  cases gk with
  | zero => exact absurd HA.out (by simp [spec_SumPoints.l0])
  | succ k1 =>
   have H := HA.out
   clear HA
   simp only [spec_SumPoints.l0] at H
   by_cases c8 : x4_1 < (l0.length : Int)
   ·rw [if_pos c8] at H
    have c8b0 := decide_eq_true c8
    clear c8
    by_cases c9 : 0 ≤ x4_1
    ·rw [if_pos c9] at H
     have c9b0 := decide_eq_true c9
     clear c9
     replace H := Option.bind_eq_some_iff.mp H
     obtain ⟨⟨t813, t814, t815⟩, A100, H⟩ := H
     have A10 := Aside0.mk A100
     clear A100
     have H' := Aside0.mk H
     clear H
     try go_wp2
     replace BK807 := Aside0.mk (blk_drew BK807.out)
     replace BK811 := Aside0.mk (blk_drew BK811.out)
     replace HB := Aside0.mk (below_drew1 HB.out)
     have p812 : 0 ≤ (x4_1 : Int) := of_decide_eq_true (by first | (with_reducible assumption) | assumption)
     have q812 : x4_1 < (l0.length : Int) := of_decide_eq_true (by first | (with_reducible assumption) | assumption)
     obtain ⟨ad812, e812, hx812_0, hx812_1, hx812_2⟩ := at_T28 HR0.out x4_1 p812 q812
     have hw812_2 := hx812_2
     have hw812_1 := hx812_1
     have hw812_0 := hx812_0
     cases e812
     replace hx812_0 := hC HB hx812_0
     replace hx812_1 := hC HB hx812_1
     replace hx812_2 := hC HB hx812_2
     replace p812 := eq_true p812
     replace q812 := eq_true q812
     refine start_ (n := 7) (S := fun w' => w'.cell? ⟨gb811, 0, none⟩ = some (.int .i64 x812000_1) ∧ w'.cell? ⟨gb811, 1, none⟩ = some (.int .i64 x812001_1) ∧ w'.cell? ⟨gb811, 2, none⟩ = some (.bool x812002_1) ∧ w'.cell? (ad812.add ((x4_1).toNat * 3)) = some (.int .i64 ((rd_T28 l0 x4_1).f0)) ∧ w'.cell? ⟨(ad812.add ((x4_1).toNat * 3)).block, (ad812.add ((x4_1).toNat * 3)).off + 1, none⟩ = some (.int .i64 ((rd_T28 l0 x4_1).f1)) ∧ w'.cell? ⟨(ad812.add ((x4_1).toNat * 3)).block, (ad812.add ((x4_1).toNat * 3)).off + 2, none⟩ = some (.bool ((rd_T28 l0 x4_1).f2))) (ds := [6]) #[false, false, false, false, false, false, false] (by kernel_rfl) rfl rfl ⟨bc BK811 0, bc BK811 1, bc BK811 2, (hC HB hw812_0), (hC HB hw812_1), (hC HB hw812_2)⟩ (fun hHeld => ?_)
     generalize wr.drew = w11 at BK807 BK811 HB hx812_0 hx812_1 hx812_2 hHeld ⊢
     refine pJ 1 (some 13) ?_
     refine pJ 2 (some 14) ?_
     refine pJ 3 (some 15) ?_
     refine tJ 0 (some 12) hHeld ?_
     refine tJ 4 (some 16) hHeld ?_
     refine one_ (i := 5) (N := some 17) #[true, true, true, true, true, true, false] rfl rfl (by kernel_rfl) (by decide) (fun K hK => ?_)
     refine gO Tryz.func92 #[.agg #[.int .i64 x812000_1, .int .i64 x812001_1, .bool x812002_1], .agg #[.int .i64 ((rd_T28 l0 x4_1).f0), .int .i64 ((rd_T28 l0 x4_1).f1), .bool ((rd_T28 l0 x4_1).f2)]] ?_
     with_reducible refine (spec_PointAdd.calls k1 x812000_1 x812001_1 x812002_1 ((rd_T28 l0 x4_1).f0) ((rd_T28 l0 x4_1).f1) ((rd_T28 l0 x4_1).f2) t813 t814 t815 _ A10.out).mono ?_
     rintro e w12 ⟨rfl, hb⟩
     refine ⟨_, rfl, ?_⟩
     replace BK807 := bB BK807 hb
     replace BK811 := bB BK811 hb
     replace HB := bS HB hb
     (try clear hb)
     refine hK.out _ _ ⟨bc BK811 0, bc BK811 1, bc BK811 2, (hC HB hw812_0), (hC HB hw812_1), (hC HB hw812_2)⟩ (fun hHeld => ?_)
     clear hK K
     refine nO (some 17) ?_
     refine last_ (i := 6) (N := none) #[true, true, true, true, true, true, true] rfl rfl (by kernel_rfl) (by decide) (fun K hK => ?_)
     have hs13 : w12.cell? ⟨gb811, 0, none⟩ = some (.int .i64 x812000_1) := bc BK811 0
     have hfs13 := blk_frozen BK811.out 0
     obtain ⟨hns13_0, hms13_0⟩ := nB NB807_811
     have hs14 : w12.cell? ⟨gb811, 1, none⟩ = some (.int .i64 x812001_1) := bc BK811 1
     have hfs14 := blk_frozen BK811.out 1
     obtain ⟨hns14_0, hms14_0⟩ := nB NB807_811
     have hs15 : w12.cell? ⟨gb811, 2, none⟩ = some (.bool x812002_1) := bc BK811 2
     have hfs15 := blk_frozen BK811.out 2
     obtain ⟨hns15_0, hms15_0⟩ := nB NB807_811
     refine skip_ (w1 := ?_) (by rfl) rfl ?_ ?_
     rotate_left
     ·go_simp
      rfl
     refine hK.out _ _ ?_
     clear hK K
     refine done_ (by kernel_rfl) ?_
     try go_wp2
     go_roundg k1
     case measure => have := HK1.out; omega
     case rel => exact ⟨(wrap64 (x4_1 + 1)), (t813), (t814), (t815), rS, H', ⟨by have := HK1.out; omega⟩, ⟨bP BK807⟩, ⟨bU BK811⟩, ⟨bZ HB⟩⟩
    ·rw [if_neg c9] at H
     exact absurd H (by simp)
   ·rw [if_neg c8] at H
    have c8b0 := decide_eq_false c8
    clear c8
    simp only [Option.some.injEq, Prod.mk.injEq] at H
    obtain ⟨rfl, rfl, rfl⟩ := H
    obtain ⟨hnb16, hnc16⟩ := nB NB811_807
    obtain ⟨hcz17_0, hcz17_1, hcz17_2, hfz17_0, hfz17_1, hfz17_2⟩ := bK3 (w := wr) BK811
    obtain ⟨hcz18_0, hcz18_1, hcz18_2, hfz18_0, hfz18_1, hfz18_2⟩ := bK3 (w := wr) BK807
    go_wp2
    refine rC gb807 28 #[.int .i64 x812000_1, .int .i64 x812001_1, .bool x812002_1] (bU BK807) Tryz.underlying28 ?_
    exact ⟨rR, bZ HB⟩
def spec_AllSigOk.f (k : Nat) (l0 : List (S28)) (a1 : ByteArray) (a2_0 : Int) (a2_1 : Int) (a2_2 : Bool) : Option (Bool) := if (l0.length : Int) > 0 then ((spec_SumPoints.f k l0).bind fun bt817 => ((spec_SigOk.f k bt817.1 bt817.2.1 bt817.2.2 a1 a2_0 a2_1 a2_2).bind fun t820 => (some t820))) else (some false)
def spec_AllSigOk.T1 : Bool × List (List Nat × List Nat) := (true, [([], []), ([0], [0]), ([1], [1]), ([2], [2]), ([3], [3]), ([4, 3, 3], [3, 4]), ([3], [3]), ([3], [3]), ([5, 6, 7, 5, 3], [3, 5, 6, 7]), ([3, 8], [3, 8]), ([9, 8, 0, 1, 2, 3, 4, 5, 6, 7, 8, 9], [9])])
def spec_AllSigOk.B1 : List Nat := [0, 1, 3, 7, 15, 31, 15, 15, 255, 511, 1023]
theorem spec_AllSigOk.tab1 : rtab .any (opsOf Tryz.f14 1) = spec_AllSigOk.T1 := by kernel_rfl
theorem spec_AllSigOk.bits1 : waitsOk spec_AllSigOk.T1.2 spec_AllSigOk.B1 = true := by kernel_rfl
set_option maxHeartbeats 8000000 in
set_option maxRecDepth 100000 in
theorem spec_AllSigOk.calls (k : Nat) (A0 : Option Addr) (c0 : Nat) (l0 : List (S28)) (a1 : ByteArray) (a2_0 : Int) (a2_1 : Int) (a2_2 : Bool) (r : Bool) (w : World) (hr0 : Kd.C k28 w A0 l0.length l0) (hc0 : l0.length ≤ c0) (h : spec_AllSigOk.f k l0 a1 a2_0 a2_1 a2_2 = some r) :
  Calls Tryz.prog 14 #[.slice A0 l0.length c0, .string a1, .agg #[.int .i64 a2_0, .int .i64 a2_1, .bool a2_2]] w fun e w' => e = .returned (.bool r) ∧ Below w.heap.size w w' := by
 have hu28 := Tryz.underlying28
 have HR0 := Aside0.mk hr0
 have HC0 := Aside0.mk hc0
 clear hr0 hc0
 have HB := Aside0.mk (Below.refl w.heap.size w)
 have H : (if (l0.length : Int) > 0 then ((spec_SumPoints.f k l0).bind fun bt817 => ((spec_SigOk.f k bt817.1 bt817.2.1 bt817.2.2 a1 a2_0 a2_1 a2_2).bind fun t820 => (some t820))) else (some false)) = some r := h
 clear h
 by_cases c4 : (l0.length : Int) > 0
 ·rw [if_pos c4] at H
  have c4b0 := decide_eq_true c4
  have c4b1 : decide (0 < l0.length) = true := decide_eq_true (by omega)
  clear c4
  replace H := Option.bind_eq_some_iff.mp H
  obtain ⟨⟨t817, t818, t819⟩, A50, H⟩ := H
  have A5 := Aside0.mk A50
  clear A50
  replace H := Option.bind_eq_some_iff.mp H
  obtain ⟨t820, A60, H⟩ := H
  have A6 := Aside0.mk A60
  clear A60
  obtain rfl := Option.some.inj H
  go_enter Tryz.func14, Tryz.ntmps14
  try go_wp2_with (first | (refine gB 5 #[.int .i64 a2_0, .int .i64 a2_1, .bool a2_2] 28 ?_; intro gb816 hg w7 BK816 hb; have GW816 := bG HB hg; replace HB := bS HB hb; clear hb hg))
  replace BK816 := Aside0.mk (blk_drew BK816.out)
  replace HB := Aside0.mk (below_drew1 HB.out)
  refine start_ (n := 11) (S := fun w' => SQ3 w' gb816 (.int .i64 a2_0) (.int .i64 a2_1) (.bool a2_2)) (ds := []) #[false, false, false, false, false, false, false, false, false, false, false] (by kernel_rfl) rfl rfl (bT3 BK816) (fun hHeld => ?_); refine with_tabW spec_AllSigOk.tab1 spec_AllSigOk.bits1 (fun HT_ HW_ => ?_)
  generalize w7.drew = w8 at BK816 HB hHeld ⊢
  refine pI 0 (some 7) HT_.out ?_
  refine pI 1 (some 8) HT_.out ?_
  refine pI 2 (some 9) HT_.out ?_
  refine pI 3 (some 10) HT_.out ?_
  refine pI 4 (some 11) HT_.out ?_
  refine pI 6 (some 13) HT_.out ?_
  refine tI3 7 (some 14) HT_.out HW_.out hHeld ?_
  refine oI 5 (some 12) HT_.out (fun K hK => ?_)
  refine gO Tryz.func54 #[.slice A0 l0.length c0] ?_
  with_reducible refine (spec_SumPoints.calls k _ _ l0 t817 t818 t819 _ ?side1 ?side2 A5.out).mono ?_
  (case side1 => exact cP (Kd.C_below HR0.out HB.out))
  (case side2 => exact HC0.out)
  rintro e w9 ⟨rfl, hb⟩
  refine ⟨_, rfl, ?_⟩
  replace BK816 := bB BK816 hb
  replace HB := bS HB hb
  (try clear hb)
  refine hK.out _ _ (bT3 BK816) (fun hHeld => ?_)
  clear hK K
  refine nO (some 12) ?_
  refine oI 8 (some 15) HT_.out (fun K hK => ?_)
  refine gO Tryz.func23 #[.agg #[.int .i64 t817, .int .i64 t818, .bool t819], .string a1, .agg #[.int .i64 a2_0, .int .i64 a2_1, .bool a2_2]] ?_
  with_reducible refine (spec_SigOk.calls k t817 t818 t819 a1 a2_0 a2_1 a2_2 t820 _ A6.out).mono ?_
  rintro e w10 ⟨rfl, hb⟩
  refine ⟨_, rfl, ?_⟩
  replace BK816 := bB BK816 hb
  replace HB := bS HB hb
  (try clear hb)
  refine hK.out _ _ (bT3 BK816) (fun hHeld => ?_)
  clear hK K
  refine nO (some 15) ?_
  refine pI 9 (some 16) HT_.out ?_
  refine pI 10 (some 6) HT_.out ?_
  refine done_ (done_of HT_.out (by kernel_rfl)) ?_
  try go_wp2
  go_ret
  exact ⟨rR, bZ HB⟩
 ·rw [if_neg c4] at H
  have c4b0 := decide_eq_false c4
  have c4b1 : decide (0 < l0.length) = false := decide_eq_false (by omega)
  clear c4
  obtain rfl := Option.some.inj H
  go_enter Tryz.func14, Tryz.ntmps14
  try go_wp2_with (first | (refine gB 5 #[.int .i64 a2_0, .int .i64 a2_1, .bool a2_2] 28 ?_; intro gb816 hg w11 BK816 hb; have GW816 := bG HB hg; replace HB := bS HB hb; clear hb hg))
  replace BK816 := Aside0.mk (blk_drew BK816.out)
  replace HB := Aside0.mk (below_drew1 HB.out)
  refine start_ (n := 11) (S := fun w' => True) (ds := []) #[false, false, false, false, false, false, false, false, false, false, false] (by kernel_rfl) rfl rfl trivial (fun hHeld => ?_); refine with_tabW spec_AllSigOk.tab1 spec_AllSigOk.bits1 (fun HT_ HW_ => ?_)
  generalize w11.drew = w12 at BK816 HB hHeld ⊢
  refine pI 0 (some 7) HT_.out ?_
  refine pI 1 (some 8) HT_.out ?_
  refine pI 2 (some 9) HT_.out ?_
  refine pI 3 (some 10) HT_.out ?_
  refine pK 4 (some 11) HT_.out ?_
  refine pK 5 (some 12) HT_.out ?_
  refine pK 6 (some 13) HT_.out ?_
  refine pK 7 (some 14) HT_.out ?_
  refine pK 8 (some 15) HT_.out ?_
  refine pI 9 (some 16) HT_.out ?_
  refine pI 10 (some 6) HT_.out ?_
  refine done_ (done_of HT_.out (by kernel_rfl)) ?_
  try go_wp2
  go_ret
  exact ⟨rR, bZ HB⟩
end Go.Proofs.YtkdmplfldfagnaaGreatDoor.Pf
end
section
namespace Go.Proofs.YtkdmplfldfagnaaGreatDoor.Pf
open Go.RowKit Go.Proofs.YtkdmplfldfagnaaGreatDoorW.PrintWords Go.Proofs.YtkdmplfldfagnaaGreatDoorW.PrintLast Go.Proofs.YtkdmplfldfagnaaGreatDoorW.PrintMore
attribute [local go_sem] max2_int min2_int max_two min_two max_three min_three max_four min_four   -- for this text's walks alone
set_option linter.unusedVariables false
set_option linter.unusedSimpArgs false
attribute [local go_sem high] eqA28
def laws_FnSignsTogether.l0 : Nat → List Int → List Int → List (S28) → Int → Int → Int → Int → Bool → Option (Bool)
 | 0, _, _, _, _, _, _, _, _ => none
 | k + 1, x0, x3, x4, x6, x7, x829000, x829001, x829002 => if 0 < (x3.length : Int) then (if x7 < (wrap64 (1 + (Int.tmod (rd x3 0) 5))) then (if 0 ≤ x7 then (if x7 < (x3.length : Int) then ((impl_KeyOf.f k (rd x3 x7)).bind fun bt831 => (if x4.length < 5864062014805 then ((impl_SignWith.f k (rd x3 x7) (⟨#[97, 108, 108]⟩ : ByteArray)).bind fun bt838 => ((impl_PointAdd.f k x829000 x829001 x829002 bt838.1 bt838.2.1 bt838.2.2).bind fun bt841 => ((spec_ScAdd.f x6 (rd x3 x7)).bind fun t845 => (laws_FnSignsTogether.l0 k x0 x3 (x4 ++ [(⟨bt831.1, bt831.2.1, bt831.2.2⟩ : S28)]) t845 (wrap64 (x7 + 1)) bt841.1 bt841.2.1 bt841.2.2)))) else (none))) else (none)) else (none)) else ((spec_DrawAllSigOk.f k x0).bind fun bt846 => ((impl_AllSigOk.f k x4 (⟨#[97, 108, 108]⟩ : ByteArray) x829000 x829001 x829002).bind fun t854 => (if (t854 == (x6 != 0)) = true then ((impl_AllSigOk.f k bt846.1 bt846.2.1 bt846.2.2.1 bt846.2.2.2.1 bt846.2.2.2.2).bind fun t855 => ((spec_AllSigOk.f k bt846.1 bt846.2.1 bt846.2.2.1 bt846.2.2.2.1 bt846.2.2.2.2).bind fun t856 => (if (t855 == t856) = true then ((impl_AllSigOk.f k (([] : List (S28))) (⟨#[97, 108, 108]⟩ : ByteArray) x829000 x829001 x829002).bind fun t860 => (if t860 = true then (some false) else ((impl_SignWith.f k x6 (⟨#[97, 108, 108]⟩ : ByteArray)).bind fun bt861 => (some (x829000 == bt861.1 && (x829001 == bt861.2.1 && (x829002 == bt861.2.2))))))) else (some false)))) else (some false))))) else (none)
def laws_FnSignsTogether.f (k : Nat) (l0 : List Int) : Option (Bool) := (laws_big.f l0).bind fun t821 => (if t821 = true then (some true) else ((spec_DrawPlaces.f k l0).bind fun t822 => (laws_FnSignsTogether.l0 k l0 t822 (([] : List (S28))) 0 0 0 0 true)))
def laws_FnSignsTogether.T11 : Bool × List (List Nat × List Nat) := (true, [([], []), ([], []), ([], []), ([1, 2], [1, 2]), ([3], [3]), ([4], [4]), ([0, 5, 5], [0, 5]), ([6, 6, 0, 1, 2, 3, 4, 5, 6], [6])])
def laws_FnSignsTogether.B11 : List Nat := [0, 0, 0, 6, 14, 30, 63, 127]
theorem laws_FnSignsTogether.tab11 : rtab .any (opsOf Tryz.f3 11) = laws_FnSignsTogether.T11 := by kernel_rfl
theorem laws_FnSignsTogether.bits11 : waitsOk laws_FnSignsTogether.T11.2 laws_FnSignsTogether.B11 = true := by kernel_rfl
def laws_FnSignsTogether.T14 : Bool × List (List Nat × List Nat) := (true, [([], []), ([], []), ([0, 1], [0, 1]), ([], []), ([3], [3]), ([2, 4], [2, 4]), ([5, 2], [5]), ([6], [6]), ([6], [6]), ([6], [6]), ([7, 8, 9, 6, 6], [6, 7, 8, 9]), ([6], [6]), ([6], [6]), ([6], [6]), ([11, 12, 13, 10, 6], [6, 11, 12, 13]), ([10, 14, 6], [6, 10, 14]), ([6, 15], [6, 15]), ([16, 14], [16]), ([17], [17]), ([17], [17]), ([18, 19, 17, 17], [17, 18, 19]), ([20, 17], [17, 20]), ([17, 21], [17, 21]), ([22, 20], [22]), ([23], [23]), ([23], [23]), ([25, 23, 23], [23, 25]), ([24, 26, 23], [23, 24, 26]), ([23, 27], [23, 27]), ([28, 26, 0, 1, 2, 3, 4, 5, 6, 7, 8, 9, 10, 11, 12, 13, 14, 15, 16, 17, 18, 19, 20, 21, 22, 23, 24, 25, 26, 27, 28], [28])])
def laws_FnSignsTogether.B14 : List Nat := [0, 0, 3, 0, 8, 31, 63, 127, 127, 127, 1023, 127, 127, 127, 16383, 32767, 65535, 131071, 262143, 262143, 1048575, 2097151, 4194303, 8388607, 16777215, 16777215, 50331647, 134217727, 268435455, 536870911]
theorem laws_FnSignsTogether.tab14 : rtab .any (opsOf Tryz.f3 14) = laws_FnSignsTogether.T14 := by kernel_rfl
theorem laws_FnSignsTogether.bits14 : waitsOk laws_FnSignsTogether.T14.2 laws_FnSignsTogether.B14 = true := by kernel_rfl
set_option maxHeartbeats 8000000 in
set_option maxRecDepth 100000 in
theorem laws_FnSignsTogether.calls (k : Nat) (A0 : Option Addr) (c0 : Nat) (l0 : List Int) (r : Bool) (w : World) (hr0 : Kd.C (Kd.int .u8) w A0 l0.length l0) (hc0 : l0.length ≤ c0) (hT : Kp.Tab w) (htrue : Aside0 (r = true)) (h : laws_FnSignsTogether.f k l0 = some r) :
  Calls Tryz.prog 3 #[.slice A0 l0.length c0] w fun e w' => e = .returned (.bool r) ∧ Below w.heap.size w w' := by
 have HT := Aside0.mk hT
 clear hT
 have hu28 := Tryz.underlying28
 have HR0 := Aside0.mk hr0
 have HC0 := Aside0.mk hc0
 clear hr0 hc0
 have HB := Aside0.mk (Below.refl w.heap.size w)
 have H : ((laws_big.f l0).bind fun t821 => (if t821 = true then (some true) else ((spec_DrawPlaces.f k l0).bind fun t822 => (laws_FnSignsTogether.l0 k l0 t822 (([] : List (S28))) 0 0 0 0 true)))) = some r := h
 clear h
 replace H := Option.bind_eq_some_iff.mp H
 obtain ⟨t821, A20, H⟩ := H
 have A2 := Aside0.mk A20
 clear A20
 by_cases c3 : t821 = true
 ·subst c3
  rw [if_pos rfl] at H
  obtain rfl := Option.some.inj H
  go_enter Tryz.func3, Tryz.ntmps3
  go_wp2_with (first | (refine gC (some 12) Tryz.func6 #[.slice A0 l0.length c0] ?_; (with_reducible refine (laws_big.calls _ _ l0 true _ ?side1 ?side2 A2.out).mono ?_); (case side1 => exact cP HR0.out); (case side2 => exact HC0.out); rintro e w' ⟨rfl, ⟨nd, rfl⟩⟩; refine ⟨_, rfl, ?_⟩))
  go_ret
  exact ⟨rR, bZ HB⟩
 ·replace c3 := Bool.eq_false_iff.mpr c3
  subst c3
  rw [if_neg (show ¬ (false = true) by decide)] at H
  replace H := Option.bind_eq_some_iff.mp H
  obtain ⟨t822, A40, H⟩ := H
  have A4 := Aside0.mk A40
  clear A40
  obtain ⟨y825, hy825⟩ : ∃ y_ : List (S28), y_ = (([] : List (S28))) := ⟨_, rfl⟩
  replace H : (laws_FnSignsTogether.l0 k l0 t822 y825 0 0 0 0 true) = some r := by first | (rw [hy825]; with_reducible exact H) | (have H2_ := (Option.bind_some _ _).symm.trans H; rw [hy825]; with_reducible exact H2_) | (have H2_ := (Option.bind_some _ _).symm.trans H; with_reducible exact H2_) | with_reducible exact H | (rw [hy825]; exact H) | exact H
  have Ny825 := Aside0.mk hy825
  clear hy825
  have H' := Aside0.mk H
  clear H
  go_enter Tryz.func3, Tryz.ntmps3
  go_wp2_with (first | (refine gC (some 12) Tryz.func6 #[.slice A0 l0.length c0] ?_; (with_reducible refine (laws_big.calls _ _ l0 false _ ?side1 ?side2 A2.out).mono ?_); (case side1 => exact cP HR0.out); (case side2 => exact HC0.out); rintro e w' ⟨rfl, ⟨nd, rfl⟩⟩; refine ⟨_, rfl, ?_⟩) | (refine gC (some 14) Tryz.func7 #[.slice A0 l0.length c0] ?_; (with_reducible refine (spec_DrawPlaces.calls k _ _ l0 t822 _ ?side1 ?side2 A4.out).mono ?_); (case side1 => exact cP HR0.out); (case side2 => exact HC0.out); rintro e w5 ⟨v823, rfl, ho0, hb⟩; refine ⟨_, rfl, ?_⟩; have HO824 := Aside0.mk (Kd.R_lower ho0 (below_size (bZ HB))); replace HB := bS HB hb; (try clear hb); (try clear ho0)) | ((with_reducible refine gate_dst (N := 15) rfl ?_); (try (refine gate_guard (by rfl) ?_; dsimp only)); refine Kd.R_lit k28 _ 28 ?hg (N := 15) ?hd (xs := ([] : List (S28))) (inner := []) (ok := fun _ => True) (okp := fun _ => True) ?hr ?hp (fun _ hk => hk) trivial (Below.refl _ _) (Nat.le_refl _) (by simp) ?_; (case hd => rfl); (case hg => rfl); (case hr => first | (go_simp; done) | (go_simp; rfl)); (case hp => exact (Reps.none _ _)); intro v826 w6 ho7 hb hg_ hnew_; clear hg_ hnew_; (first | rw [← Ny825.out] at ho7 | (simp only [Int.reduceToNat] at ho7; rw [← Ny825.out] at ho7)); replace HO824 := Aside0.mk (Kd.R_below (rP HO824) hb); have HO827 := Aside0.mk (Kd.R_lower ho7 (below_size (bZ HB))); replace HB := bS HB hb; clear hb ho7) | ((with_reducible refine gate_dst (N := 5) rfl ?_); (try (refine gate_guard (by rfl) ?_; dsimp only)); refine box_event ?hg (N := 5) ?hd (cs := #[.int .i64 0, .int .i64 0, .bool false]) (t := 28) ?hr ?_; (case hd => rfl); (case hg => rfl); (case hr => first | (go_simp; done) | (go_simp; rfl)); intro gb828 hg w8 hbox hb; replace HO824 := Aside0.mk (Kd.R_below (rP HO824) hb); replace HO827 := Aside0.mk (Kd.R_below (Kd.R_elderB (rP HO827) gb828 (Nat.le_of_eq hg.symm)) hb); have BK828 := Aside0.mk (hbox); have GW828 := bG HB hg; replace HB := bS HB hb; clear hb hbox hg; obtain ⟨hcz9_0, hcz9_1, hcz9_2, hfz9_0, hfz9_1, hfz9_2⟩ := bK3 (w := w8) BK828))
  go_loopg [4, 6, 7] k (fun kq v4 v6 v7 w' => ∃ (x4_1 : List (S28)) (x6_1 : Int) (x7_1 : Int) (x829000_1 : Int) (x829001_1 : Int) (x829002_1 : Bool), v6 = .int .i64 x6_1 ∧ v7 = .int .i64 x7_1 ∧ Aside0 (laws_FnSignsTogether.l0 kq l0 t822 x4_1 x6_1 x7_1 x829000_1 x829001_1 x829002_1 = some r) ∧ Aside0 (kq ≤ k) ∧ Aside0 (Kd.R (Kd.int .i64) 3 w' w.heap.size (fun _ => True) v823 t822) ∧ Aside0 (Kd.R k28 28 w' w.heap.size (fun k_ => k_ ≠ gb828) v4 x4_1) ∧ Aside0 (w'.heap[gb828]? = some (.cells #[.int .i64 x829000_1, .int .i64 x829001_1, .bool x829002_1] 28 (0, 0))) ∧ Aside0 (Below w.heap.size w w'))
  case atStart => exact ⟨(y825), (0), (0), (0), (0), (true), rS, rS, H', ⟨Nat.le_refl _⟩, ⟨by (with_reducible repeat (first | apply Kd.R_alloc | apply Kd.R_drewN | apply Kd.R_drew)); exact Kd.R_mono (Kd.R_far (p := ⟨gb828, 2, none⟩) (Kd.R_far (p := ⟨gb828, 1, none⟩) (Kd.R_far (p := ⟨gb828, 0, none⟩) (Kd.R_types HO824.out BK828.out (by decide)) (fun _ hk => hk.2) (.int .i64 0)) (fun _ hk => hk.2) (.int .i64 0)) (fun _ hk => hk.2) (.bool true)) (fun _ hk => trivial)⟩, ⟨by (with_reducible repeat (first | apply Kd.R_alloc | apply Kd.R_drewN | apply Kd.R_drew)); exact Kd.R_mono (Kd.R_far (p := ⟨gb828, 2, none⟩) (Kd.R_far (p := ⟨gb828, 1, none⟩) (Kd.R_far (p := ⟨gb828, 0, none⟩) (Kd.R_mono HO827.out (fun k_ hk => (⟨hk, hk.2⟩ : _ ∧ k_ ≠ gb828))) (fun _ hk => hk.2) (.int .i64 0)) (fun _ hk => hk.2) (.int .i64 0)) (fun _ hk => hk.2) (.bool true)) (fun _ hk => hk.1.2)⟩, ⟨bU BK828⟩, ⟨bZ HB⟩⟩
  case round =>
   clear H'
   try clear p2
   try clear c3
   try clear c6
   try clear c7
   try clear hcz9_0
   try clear hcz9_1
   try clear hcz9_2
   try clear hfz9_0
   try clear hfz9_1
   try clear hfz9_2
   obtain ⟨x4_1, x6_1, x7_1, x829000_1, x829001_1, x829002_1, rfl, rfl, HA, HK1, HO_3, HO_4, BK828, HB⟩ := hrel
   cases gk with
   | zero => exact absurd HA.out (by simp [laws_FnSignsTogether.l0])
   | succ k1 =>
    have H := HA.out
    clear HA
    simp only [laws_FnSignsTogether.l0] at H
    by_cases c10 : 0 < (t822.length : Int)
    ·rw [if_pos c10] at H
     have c10b0 := decide_eq_true c10
     have c10b1 : decide (0 < t822.length) = true := decide_eq_true (by omega)
     clear c10
     by_cases c11 : x7_1 < (wrap64 (1 + (Int.tmod (rd t822 0) 5)))
     ·rw [if_pos c11] at H
      have c11b0 := decide_eq_true c11
      clear c11
      by_cases c12 : 0 ≤ x7_1
      ·rw [if_pos c12] at H
       have c12b0 := decide_eq_true c12
       clear c12
       by_cases c13 : x7_1 < (t822.length : Int)
       ·rw [if_pos c13] at H
        have c13b0 := decide_eq_true c13
        clear c13
        replace H := Option.bind_eq_some_iff.mp H
        obtain ⟨⟨t831, t832, t833⟩, A140, H⟩ := H
        have A14 := Aside0.mk A140
        clear A140
        by_cases c15 : x4_1.length < 5864062014805
        ·rw [if_pos c15] at H
         have LMc15 := Aside0.mk c15
         clear c15
         obtain ⟨y834, hy834⟩ : ∃ y_ : List (S28), y_ = (x4_1 ++ [(⟨t831, t832, t833⟩ : S28)]) := ⟨_, rfl⟩
         replace H : ((impl_SignWith.f k1 (rd t822 x7_1) (⟨#[97, 108, 108]⟩ : ByteArray)).bind fun bt838 => ((impl_PointAdd.f k1 x829000_1 x829001_1 x829002_1 bt838.1 bt838.2.1 bt838.2.2).bind fun bt841 => ((spec_ScAdd.f x6_1 (rd t822 x7_1)).bind fun t845 => (laws_FnSignsTogether.l0 k1 l0 t822 y834 t845 (wrap64 (x7_1 + 1)) bt841.1 bt841.2.1 bt841.2.2)))) = some r := by first | (rw [hy834]; with_reducible exact H) | (have H2_ := (Option.bind_some _ _).symm.trans H; rw [hy834]; with_reducible exact H2_) | (have H2_ := (Option.bind_some _ _).symm.trans H; with_reducible exact H2_) | with_reducible exact H | (rw [hy834]; exact H) | exact H
         have Ny834 := Aside0.mk hy834
         clear hy834
         replace H := Option.bind_eq_some_iff.mp H
         obtain ⟨⟨t838, t839, t840⟩, A160, H⟩ := H
         have A16 := Aside0.mk A160
         clear A160
         replace H := Option.bind_eq_some_iff.mp H
         obtain ⟨⟨t841, t842, t843⟩, A170, H⟩ := H
         have A17 := Aside0.mk A170
         clear A170
         replace H := Option.bind_eq_some_iff.mp H
         obtain ⟨t845, A180, H⟩ := H
         have A18 := Aside0.mk A180
         clear A180
         have H' := Aside0.mk H
         clear H
         obtain ⟨Ao19, co19, eo19⟩ := Kd.R_slice HO_3.out
         subst eo19
         have p829 : 0 ≤ (0 : Int) := (by omega)
         have q829 : 0 < (t822.length : Int) := of_decide_eq_true (by first | (with_reducible assumption) | assumption)
         obtain ⟨ad829, e829, hx829_0⟩ := Kd.at_int (Kd.R_reads' HO_3.out).2.2 0 p829 q829
         cases e829
         have qi829 : (0 < t822.length) = True := eq_true (by omega)
         (try rw [show ((0 : Int)).toNat = 0 from rfl] at hx829_0)
         (try rw [Addr.add_zero'] at hx829_0)
         replace p829 := eq_true p829
         replace q829 := eq_true q829
         have p830 : 0 ≤ (x7_1 : Int) := of_decide_eq_true (by first | (with_reducible assumption) | assumption)
         have q830 : x7_1 < (t822.length : Int) := of_decide_eq_true (by first | (with_reducible assumption) | assumption)
         obtain ⟨ad830, e830, hx830_0⟩ := Kd.at_int (Kd.R_reads' HO_3.out).2.2 x7_1 p830 q830
         obtain rfl : ad829 = ad830 := (by injection e830)
         replace p830 := eq_true p830
         replace q830 := eq_true q830
         try go_wp2_with (first | (refine gC (some 31) Tryz.func8 #[.int .i64 (rd t822 x7_1)] ?_; (with_reducible refine (impl_KeyOf.calls k1 (rd t822 x7_1) t831 t832 t833 _ A14.out).mono ?_); rintro e w20 ⟨rfl, hb⟩; refine ⟨_, rfl, ?_⟩; replace HO_3 := Aside0.mk (Kd.R_below (rP HO_3) hb); replace HO_4 := Aside0.mk (Kd.R_below (rP HO_4) hb); replace BK828 := bB BK828 hb; replace HB := bS HB hb; (try clear hb)) | ((with_reducible refine gate_builtin (b := .append) (xs := #[.tmp 26, .tmp 32]) rfl ?_); (try (refine gate_guard (by rfl) ?_; dsimp only)); at_builtin; refine Kd.R_append k28 (w0 := w) w.heap.size rfl (.tmp 26) (.tmp 32) 26 28 (.agg #[(.int .i64 0), (.int .i64 0), (.bool false)]) 24 rfl Tryz.underlying26 info28 rfl (by decide) (by omega) u4 x4_1 (⟨t831, t832, t833⟩ : S28) [.int .i64 t831, .int .i64 t832, .bool t833] (fun k_ => k_ ≠ gb828) (fun _ => False) rfl rfl ?aP (fun _ hk => hk.elim) ?aF ?aO ?aB ?aS ?aL ?_; (case aP => exact k28_mkM _ _ _ (⟨t831, t832, t833⟩ : S28)); (case aB => exact (bZ HB)); (case aF => exact (fun k_ hk => Kd.freshB (bP BK828) k_ hk)); (case aO => exact (rP HO_4)); (case aS => exact (below_size (bZ HB))); (case aL => have := LMc15.out; omega); intro v835 w21 ho hb hg hat; rw [← Ny834.out] at ho; replace HO_3 := Aside0.mk (Kd.R_over' (rP HO_3) (Kd.R_typed (rP HO_4)) (by decide) hg); replace BK828 := Aside0.mk (blk_grown (bP BK828) hg (Kd.R_away HO_4.out (fun _ hk => hk))); replace HB := Aside0.mk (hb); have HO836 := Aside0.mk (ho); clear HO_4; clear ho hb hg hat))
         replace HO_3 := Aside0.mk (Kd.R_drew HO_3.out)
         replace HO836 := Aside0.mk (Kd.R_drew HO836.out)
         replace BK828 := Aside0.mk (blk_drew BK828.out)
         replace HB := Aside0.mk (below_drew1 HB.out)
         have p837 : 0 ≤ (x7_1 : Int) := of_decide_eq_true (by first | (with_reducible assumption) | assumption)
         have q837 : x7_1 < (t822.length : Int) := of_decide_eq_true (by first | (with_reducible assumption) | assumption)
         obtain ⟨ad837, e837, hx837_0⟩ := Kd.at_int (Kd.R_reads' HO_3.out).2.2 x7_1 p837 q837
         obtain rfl : ad829 = ad837 := (by injection e837)
         replace p837 := eq_true p837
         replace q837 := eq_true q837
         refine start_ (n := 8) (S := fun w' => w'.cell? ⟨gb828, 0, none⟩ = some (.int .i64 x829000_1) ∧ w'.cell? ⟨gb828, 1, none⟩ = some (.int .i64 x829001_1) ∧ w'.cell? ⟨gb828, 2, none⟩ = some (.bool x829002_1) ∧ w'.cell? (ad829.add (x7_1).toNat) = some (.int .i64 (rd t822 x7_1))) (ds := [7]) #[false, false, false, false, false, false, false, false] (by kernel_rfl) rfl rfl ⟨bc BK828 0, bc BK828 1, bc BK828 2, hx837_0⟩ (fun hHeld => ?_); refine with_tabW laws_FnSignsTogether.tab11 laws_FnSignsTogether.bits11 (fun HT_ HW_ => ?_)
         generalize w21.drew = w22 at HO_3 HO836 BK828 HB hx837_0 hHeld ⊢
         refine pI 1 (some 35) HT_.out ?_
         refine pI 2 (some 36) HT_.out ?_
         refine pI 3 (some 37) HT_.out ?_
         refine tI4 0 (some 34) HT_.out HW_.out hHeld ?_
         refine tI4 4 (some 38) HT_.out HW_.out hHeld ?_
         refine oI 5 (some 39) HT_.out (fun K hK => ?_)
         refine gO Tryz.func10 #[.int .i64 (rd t822 x7_1), .string (⟨#[97, 108, 108]⟩ : ByteArray)] ?_
         with_reducible refine (impl_SignWith.calls k1 (rd t822 x7_1) (⟨#[97, 108, 108]⟩ : ByteArray) t838 t839 t840 _ (Kp.Tab.below HT.out (bZ HB)) A16.out).mono ?_
         rintro e w23 ⟨rfl, hb⟩
         have HS3_ := (hb.cell (World.block_lt_of_cell? _ _ (hHeld.2.2.2))).trans (hHeld.2.2.2)
         refine ⟨_, rfl, ?_⟩
         replace HO_3 := Aside0.mk (Kd.R_below (rP HO_3) hb)
         replace HO836 := Aside0.mk (Kd.R_below (rP HO836) hb)
         replace BK828 := bB BK828 hb
         replace HB := bS HB hb
         (try clear hb)
         refine hK.out _ _ ⟨bc BK828 0, bc BK828 1, bc BK828 2, HS3_⟩ (fun hHeld => ?_)
         clear hK K
         refine nO (some 39) ?_
         refine oI 6 (some 40) HT_.out (fun K hK => ?_)
         refine gO Tryz.func9 #[.agg #[.int .i64 x829000_1, .int .i64 x829001_1, .bool x829002_1], .agg #[.int .i64 t838, .int .i64 t839, .bool t840]] ?_
         with_reducible refine (impl_PointAdd.calls k1 x829000_1 x829001_1 x829002_1 t838 t839 t840 t841 t842 t843 _ A17.out).mono ?_
         rintro e w24 ⟨rfl, hb⟩
         have HS3_ := (hb.cell (World.block_lt_of_cell? _ _ (hHeld.2.2.2))).trans (hHeld.2.2.2)
         refine ⟨_, rfl, ?_⟩
         replace HO_3 := Aside0.mk (Kd.R_below (rP HO_3) hb)
         replace HO836 := Aside0.mk (Kd.R_below (rP HO836) hb)
         replace BK828 := bB BK828 hb
         replace HB := bS HB hb
         (try clear hb)
         refine hK.out _ _ ⟨bc BK828 0, bc BK828 1, bc BK828 2, HS3_⟩ (fun hHeld => ?_)
         clear hK K
         refine nO (some 40) ?_
         refine last_ (i := 7) (N := none) #[true, true, true, true, true, true, true, true] rfl rfl (one_of HT_.out (by kernel_rfl)) (by decide) (fun K hK => ?_)
         have hs25 : w24.cell? ⟨gb828, 0, none⟩ = some (.int .i64 x829000_1) := bc BK828 0
         have hfs25 := blk_frozen BK828.out 0
         have hs26 : w24.cell? ⟨gb828, 1, none⟩ = some (.int .i64 x829001_1) := bc BK828 1
         have hfs26 := blk_frozen BK828.out 1
         have hs27 : w24.cell? ⟨gb828, 2, none⟩ = some (.bool x829002_1) := bc BK828 2
         have hfs27 := blk_frozen BK828.out 2
         refine skip_ (w1 := ?_) (by rfl) rfl ?_ ?_
         rotate_left
         ·go_simp
          rfl
         refine hK.out _ _ ?_
         clear hK K
         refine done_ (done_of HT_.out (by kernel_rfl)) ?_
         have p844 : 0 ≤ (x7_1 : Int) := of_decide_eq_true (by first | (with_reducible assumption) | assumption)
         have q844 : x7_1 < (t822.length : Int) := of_decide_eq_true (by first | (with_reducible assumption) | assumption)
         obtain ⟨ad844, e844, hx844_0⟩ := Kd.at_int (Kd.R_reads' HO_3.out).2.2 x7_1 p844 q844
         obtain rfl : ad829 = ad844 := (by injection e844)
         have hn844_0 : ad829.block ≠ gb828 := Kd.own_blk (Kd.R_ne HO_3.out BK828.out (by decide))
         have hn844_1 : ad829.block ≠ gb828 := Kd.own_blk (Kd.R_ne HO_3.out BK828.out (by decide))
         have hn844_2 : ad829.block ≠ gb828 := Kd.own_blk (Kd.R_ne HO_3.out BK828.out (by decide))
         replace hx844_0 := (cell_far (p := ⟨gb828, 0, none⟩) (by first | (rw [add_block]; exact hn844_0) | (show (Addr.add _ _).block ≠ _; rw [add_block]; exact hn844_0) | exact hn844_0) (.int .i64 t841)).trans hx844_0
         replace hx844_0 := (cell_far (p := ⟨gb828, 1, none⟩) (by first | (rw [add_block]; exact hn844_1) | (show (Addr.add _ _).block ≠ _; rw [add_block]; exact hn844_1) | exact hn844_1) (.int .i64 t842)).trans hx844_0
         replace hx844_0 := (cell_far (p := ⟨gb828, 2, none⟩) (by first | (rw [add_block]; exact hn844_2) | (show (Addr.add _ _).block ≠ _; rw [add_block]; exact hn844_2) | exact hn844_2) (.bool t843)).trans hx844_0
         clear hn844_0
         clear hn844_1
         clear hn844_2
         replace p844 := eq_true p844
         replace q844 := eq_true q844
         try go_wp2_with (first | (refine gC (some 46) Tryz.func11 #[.int .i64 x6_1, .int .i64 (rd t822 x7_1)] ?_; (with_reducible refine (spec_ScAdd.calls x6_1 (rd t822 x7_1) t845 _ A18.out).mono ?_); rintro e w' ⟨rfl, ⟨nd, rfl⟩⟩; refine ⟨_, rfl, ?_⟩))
         go_roundg k1
         case measure => have := HK1.out; omega
         case rel => exact ⟨(y834), (t845), (wrap64 (x7_1 + 1)), (t841), (t842), (t843), rS, rS, H', ⟨by have := HK1.out; omega⟩, ⟨by (with_reducible repeat (first | apply Kd.R_alloc | apply Kd.R_drewN | apply Kd.R_drew)); exact Kd.R_mono (Kd.R_far (p := ⟨gb828, 2, none⟩) (Kd.R_far (p := ⟨gb828, 1, none⟩) (Kd.R_far (p := ⟨gb828, 0, none⟩) (Kd.R_types HO_3.out BK828.out (by decide)) (fun _ hk => hk.2) (.int .i64 t841)) (fun _ hk => hk.2) (.int .i64 t842)) (fun _ hk => hk.2) (.bool t843)) (fun _ hk => trivial)⟩, ⟨by (with_reducible repeat (first | apply Kd.R_alloc | apply Kd.R_drewN | apply Kd.R_drew)); exact Kd.R_mono (Kd.R_far (p := ⟨gb828, 2, none⟩) (Kd.R_far (p := ⟨gb828, 1, none⟩) (Kd.R_far (p := ⟨gb828, 0, none⟩) (Kd.R_mono HO836.out (fun k_ hk => (⟨hk, hk⟩ : _ ∧ k_ ≠ gb828))) (fun _ hk => hk.2) (.int .i64 t841)) (fun _ hk => hk.2) (.int .i64 t842)) (fun _ hk => hk.2) (.bool t843)) (fun _ hk => hk.1)⟩, ⟨bU BK828⟩, ⟨bZ HB⟩⟩
        ·rw [if_neg c15] at H
         exact absurd H (by simp)
       ·rw [if_neg c13] at H
        exact absurd H (by simp)
      ·rw [if_neg c12] at H
       exact absurd H (by simp)
     ·rw [if_neg c11] at H
      have c11b0 := decide_eq_false c11
      clear c11
      replace H := Option.bind_eq_some_iff.mp H
      obtain ⟨⟨t846, t849, t850, t851, t852⟩, A280, H⟩ := H
      have A28 := Aside0.mk A280
      clear A280
      replace H := Option.bind_eq_some_iff.mp H
      obtain ⟨t854, A290, H⟩ := H
      have A29 := Aside0.mk A290
      clear A290
      by_cases c30 : (t854 == (x6_1 != 0)) = true
      ·rw [if_pos c30] at H
       have c30b0 : (t854 == (x6_1 != 0)) = true := c30
       (try (have c30b1 : decide (t854 = (x6_1 != 0)) = true := by simpa using c30))
       (try (have c30b2 : (t854 == (x6_1 != 0)) = true := by simpa using c30))
       clear c30
       replace H := Option.bind_eq_some_iff.mp H
       obtain ⟨t855, A310, H⟩ := H
       have A31 := Aside0.mk A310
       clear A310
       replace H := Option.bind_eq_some_iff.mp H
       obtain ⟨t856, A320, H⟩ := H
       have A32 := Aside0.mk A320
       clear A320
       by_cases c33 : (t855 == t856) = true
       ·rw [if_pos c33] at H
        have c33b0 : (t855 == t856) = true := c33
        (try (have c33b1 : decide (t855 = t856) = true := by simpa using c33))
        (try (have c33b2 : (t855 == t856) = true := by simpa using c33))
        clear c33
        obtain ⟨y857, hy857⟩ : ∃ y_ : List (S28), y_ = (([] : List (S28))) := ⟨_, rfl⟩
        replace H : ((impl_AllSigOk.f k1 y857 (⟨#[97, 108, 108]⟩ : ByteArray) x829000_1 x829001_1 x829002_1).bind fun t860 => (if t860 = true then (some false) else ((impl_SignWith.f k1 x6_1 (⟨#[97, 108, 108]⟩ : ByteArray)).bind fun bt861 => (some (x829000_1 == bt861.1 && (x829001_1 == bt861.2.1 && (x829002_1 == bt861.2.2))))))) = some r := by first | (rw [hy857]; with_reducible exact H) | (have H2_ := (Option.bind_some _ _).symm.trans H; rw [hy857]; with_reducible exact H2_) | (have H2_ := (Option.bind_some _ _).symm.trans H; with_reducible exact H2_) | with_reducible exact H | (rw [hy857]; exact H) | exact H
        have Ny857 := Aside0.mk hy857
        clear hy857
        replace H := Option.bind_eq_some_iff.mp H
        obtain ⟨t860, A340, H⟩ := H
        have A34 := Aside0.mk A340
        clear A340
        by_cases c35 : t860 = true
        ·subst c35
         rw [if_pos rfl] at H
         exact absurd (Option.some.inj H) (by rw [htrue.out]; exact Bool.false_ne_true)
        ·replace c35 := Bool.eq_false_iff.mpr c35
         subst c35
         rw [if_neg (show ¬ (false = true) by decide)] at H
         replace H := Option.bind_eq_some_iff.mp H
         obtain ⟨⟨t861, t862, t863⟩, A360, H⟩ := H
         have A36 := Aside0.mk A360
         clear A360
         obtain rfl := Option.some.inj H
         obtain ⟨Ao37, co37, eo37⟩ := Kd.R_slice HO_3.out
         subst eo37
         have p829 : 0 ≤ (0 : Int) := (by omega)
         have q829 : 0 < (t822.length : Int) := of_decide_eq_true (by first | (with_reducible assumption) | assumption)
         obtain ⟨ad829, e829, hx829_0⟩ := Kd.at_int (Kd.R_reads' HO_3.out).2.2 0 p829 q829
         cases e829
         have qi829 : (0 < t822.length) = True := eq_true (by omega)
         (try rw [show ((0 : Int)).toNat = 0 from rfl] at hx829_0)
         (try rw [Addr.add_zero'] at hx829_0)
         replace p829 := eq_true p829
         replace q829 := eq_true q829
         try go_wp2_with (first | (refine gC (some 49) Tryz.func12 #[.slice A0 l0.length c0] ?_; (with_reducible refine (spec_DrawAllSigOk.calls k1 _ _ l0 t846 t849 t850 t851 t852 _ ?side1 ?side2 A28.out).mono ?_); (case side1 => exact cP (Kd.C_below HR0.out HB.out)); (case side2 => exact HC0.out); rintro e w38 ⟨v847, rfl, ho0, hb⟩; refine ⟨_, rfl, ?_⟩; replace HO_3 := Aside0.mk (Kd.R_below (rP HO_3) hb); have HO848 := Aside0.mk (Kd.Q_lower (Kd.Q_newB (Kd.Q_new' ho0 (Kd.R_lt (rP HO_4))) (bP BK828)) (below_size (bZ HB))); replace HO_4 := Aside0.mk (Kd.R_elder' (rP HO_4) (Kd.Q_base ho0) hb); replace BK828 := bB BK828 hb; replace HB := bS HB hb; (try clear hb); (try clear ho0)) | ((with_reducible refine gate_dst (N := 10) rfl ?_); (try (refine gate_guard (by rfl) ?_; dsimp only)); refine box_event ?hg (N := 10) ?hd (cs := #[.int .i64 0, .int .i64 0, .bool false]) (t := 28) ?hr ?_; (case hd => rfl); (case hg => rfl); (case hr => first | (go_simp; done) | (go_simp; rfl)); intro gb853 hg w39 hbox hb; replace HO_3 := Aside0.mk (Kd.R_below (rP HO_3) hb); replace HO_4 := Aside0.mk (Kd.R_below (Kd.R_elderB (rP HO_4) gb853 (Nat.le_of_eq hg.symm)) hb); replace HO848 := Aside0.mk (Kd.Q_below (Kd.Q_elderB (by (with_reducible repeat (first | apply Kd.Q_alloc | apply Kd.Q_drewN | apply Kd.Q_drew)); exact HO848.out) gb853 (Nat.le_of_eq hg.symm)) hb); have BK853 := Aside0.mk (hbox); have GW853 := bG HB hg; replace HB := bS HB hb; obtain ⟨NB828_853, NB853_828⟩ := bN BK828 hg; replace BK828 := bB BK828 hb; clear hb hbox hg; obtain ⟨hnb40, hnc40⟩ := nB NB853_828; obtain ⟨hcz41_0, hcz41_1, hcz41_2, hfz41_0, hfz41_1, hfz41_2⟩ := bK3 (w := w39) BK853))
         obtain ⟨w42, hW_⟩ : ∃ W_ : World, W_ = (((w39.setCell ⟨gb853, 0, none⟩ (.int .i64 t850)).setCell ⟨gb853, 1, none⟩ (.int .i64 t851)).setCell ⟨gb853, 2, none⟩ (.bool t852)) := ⟨_, rfl⟩
         have n0_ : Aside0 (Kd.R (Kd.int .i64) 3 (((w39.setCell ⟨gb853, 0, none⟩ (.int .i64 t850)).setCell ⟨gb853, 1, none⟩ (.int .i64 t851)).setCell ⟨gb853, 2, none⟩ (.bool t852)) w.heap.size (fun _ => True) (.slice (some ad829) t822.length co37) t822) := ⟨by (with_reducible repeat (first | apply Kd.R_alloc | apply Kd.R_drewN | apply Kd.R_drew)); exact Kd.R_mono (Kd.R_far (p := ⟨gb853, 2, none⟩) (Kd.R_far (p := ⟨gb853, 1, none⟩) (Kd.R_far (p := ⟨gb853, 0, none⟩) (Kd.R_types HO_3.out BK853.out (by decide)) (fun _ hk => hk.2) (.int .i64 t850)) (fun _ hk => hk.2) (.int .i64 t851)) (fun _ hk => hk.2) (.bool t852)) (fun _ hk => trivial)⟩
         rw [← hW_] at n0_
         have n1_ : Aside0 (Kd.R k28 28 (((w39.setCell ⟨gb853, 0, none⟩ (.int .i64 t850)).setCell ⟨gb853, 1, none⟩ (.int .i64 t851)).setCell ⟨gb853, 2, none⟩ (.bool t852)) w.heap.size (fun k_ => some k_ ≠ (v847 : Value).ownBlock ∧ k_ ≠ gb828 ∧ k_ ≠ gb853) u4 x4_1) := ⟨by (with_reducible repeat (first | apply Kd.R_alloc | apply Kd.R_drewN | apply Kd.R_drew)); exact Kd.R_mono (Kd.R_far (p := ⟨gb853, 2, none⟩) (Kd.R_far (p := ⟨gb853, 1, none⟩) (Kd.R_far (p := ⟨gb853, 0, none⟩) (Kd.R_mono HO_4.out (fun k_ hk => (⟨hk, hk.2⟩ : _ ∧ k_ ≠ gb853))) (fun _ hk => hk.2) (.int .i64 t850)) (fun _ hk => hk.2) (.int .i64 t851)) (fun _ hk => hk.2) (.bool t852)) (fun _ hk => ⟨hk.1.1.2, ⟨hk.1.1.1, hk.1.2⟩⟩)⟩
         rw [← hW_] at n1_
         have n2_ : Aside0 (Kd.Q k28 28 (((w39.setCell ⟨gb853, 0, none⟩ (.int .i64 t850)).setCell ⟨gb853, 1, none⟩ (.int .i64 t851)).setCell ⟨gb853, 2, none⟩ (.bool t852)) w.heap.size (fun k_ => some k_ ≠ (u4 : Value).ownBlock ∧ k_ ≠ gb828 ∧ k_ ≠ gb853) v847 t846) := ⟨by (with_reducible repeat (first | apply Kd.Q_alloc | apply Kd.Q_drewN | apply Kd.Q_drew)); exact Kd.Q_mono (Kd.Q_far (p := ⟨gb853, 2, none⟩) (Kd.Q_far (p := ⟨gb853, 1, none⟩) (Kd.Q_far (p := ⟨gb853, 0, none⟩) (Kd.Q_mono HO848.out (fun k_ hk => (⟨hk, hk.2⟩ : _ ∧ k_ ≠ gb853))) (fun _ hk => hk.2) (.int .i64 t850)) (fun _ hk => hk.2) (.int .i64 t851)) (fun _ hk => hk.2) (.bool t852)) (fun _ hk => ⟨hk.1.1.1.2, ⟨hk.1.1.2, hk.1.2⟩⟩)⟩
         rw [← hW_] at n2_
         replace BK828 := bW hW_ BK828
         replace BK853 := bX hW_ 28 #[.int .i64 t850, .int .i64 t851, .bool t852] BK853
         (try clear HO_3)
         (try clear HO_4)
         (try clear HO848)
         have HO_3 := n0_
         clear n0_
         have HO_4 := n1_
         clear n1_
         have HO848 := n2_
         clear n2_
         replace HB := zW hW_ HB
         rw [← hW_]
         clear hW_
         replace HO_3 := Aside0.mk (Kd.R_drew HO_3.out)
         replace HO_4 := Aside0.mk (Kd.R_drew HO_4.out)
         replace HO848 := Aside0.mk (Kd.Q_drew HO848.out)
         replace BK828 := Aside0.mk (blk_drew BK828.out)
         replace BK853 := Aside0.mk (blk_drew BK853.out)
         replace HB := Aside0.mk (below_drew1 HB.out)
         obtain ⟨Ao44, co44, eo44⟩ := Kd.R_slice HO_4.out
         (first | subst eo44 | (injection eo44 with f1_ f2_ f3_; have f4_ := f1_.symm; have f5_ := f3_.symm; clear f1_ f2_ f3_; subst f4_; subst f5_))
         refine start_ (n := 30) (S := fun w' => SP3 w' gb828 (.int .i64 x829000_1) (.int .i64 x829001_1) (.bool x829002_1) (SQ3 w' gb853 (.int .i64 t850) (.int .i64 t851) (.bool t852))) (ds := []) #[false, false, false, false, false, false, false, false, false, false, false, false, false, false, false, false, false, false, false, false, false, false, false, false, false, false, false, false, false, false] (by kernel_rfl) rfl rfl (bS3 BK828 (bT3 BK853)) (fun hHeld => ?_); refine with_tabW laws_FnSignsTogether.tab14 laws_FnSignsTogether.bits14 (fun HT_ HW_ => ?_)
         generalize w42.drew = w43 at HO_3 HO_4 HO848 BK828 BK853 HB hHeld ⊢
         refine pI 0 (some 53) HT_.out ?_
         refine pI 3 (some 56) HT_.out ?_
         refine pI 4 (some 57) HT_.out ?_
         refine tI6 1 (some 54) HT_.out HW_.out hHeld ?_
         refine oI 2 (some 55) HT_.out (fun K hK => ?_)
         refine gO Tryz.func13 #[.slice Ao44 x4_1.length co44, .string (⟨#[97, 108, 108]⟩ : ByteArray), .agg #[.int .i64 x829000_1, .int .i64 x829001_1, .bool x829002_1]] ?_
         with_reducible refine (impl_AllSigOk.calls k1 _ _ x4_1 (⟨#[97, 108, 108]⟩ : ByteArray) x829000_1 x829001_1 x829002_1 t854 _ ?side1 ?side2 (Kp.Tab.below HT.out (bZ HB)) A29.out).mono ?_
         (case side1 => exact cP ((Kd.R_reads' HO_4.out).2.2))
         (case side2 => exact (Kd.R_reads' HO_4.out).2.1)
         rintro e w45 ⟨rfl, hb⟩
         refine ⟨_, rfl, ?_⟩
         replace HO_3 := Aside0.mk (Kd.R_below (rP HO_3) hb)
         replace HO_4 := Aside0.mk (Kd.R_below (rP HO_4) hb)
         replace HO848 := Aside0.mk (Kd.Q_below (by (with_reducible repeat (first | apply Kd.Q_alloc | apply Kd.Q_drewN | apply Kd.Q_drew)); exact HO848.out) hb)
         replace BK828 := bB BK828 hb
         replace BK853 := bB BK853 hb
         replace HB := bS HB hb
         (try clear hb)
         obtain ⟨Ao46, co46, eo46, _⟩ := Kd.Q_slice HO848.out
         (first | subst eo46 | (injection eo46 with f1_ f2_ f3_; have f4_ := f1_.symm; have f5_ := f3_.symm; clear f1_ f2_ f3_; subst f4_; subst f5_))
         refine hK.out _ _ (bS3 BK828 (bT3 BK853)) (fun hHeld => ?_)
         clear hK K
         refine nO (some 55) ?_
         refine pI 5 (some 58) HT_.out ?_
         refine pI 6 (some 59) HT_.out ?_
         refine pI 7 (some 60) HT_.out ?_
         refine pI 8 (some 61) HT_.out ?_
         refine pI 11 (some 64) HT_.out ?_
         refine pI 12 (some 65) HT_.out ?_
         refine tI6 9 (some 62) HT_.out HW_.out hHeld ?_
         refine tI6 13 (some 66) HT_.out HW_.out hHeld ?_
         refine oI 10 (some 63) HT_.out (fun K hK => ?_)
         refine gO Tryz.func13 #[.slice Ao46 t846.length co46, .string t849, .agg #[.int .i64 t850, .int .i64 t851, .bool t852]] ?_
         with_reducible refine (impl_AllSigOk.calls k1 _ _ t846 t849 t850 t851 t852 t855 _ ?side1 ?side2 (Kp.Tab.below HT.out (bZ HB)) A31.out).mono ?_
         (case side1 => exact cP ((Kd.Q_reads' HO848.out).2.2))
         (case side2 => exact (Kd.Q_reads' HO848.out).2.1)
         rintro e w47 ⟨rfl, hb⟩
         refine ⟨_, rfl, ?_⟩
         replace HO_3 := Aside0.mk (Kd.R_below (rP HO_3) hb)
         replace HO_4 := Aside0.mk (Kd.R_below (rP HO_4) hb)
         replace HO848 := Aside0.mk (Kd.Q_below (by (with_reducible repeat (first | apply Kd.Q_alloc | apply Kd.Q_drewN | apply Kd.Q_drew)); exact HO848.out) hb)
         replace BK828 := bB BK828 hb
         replace BK853 := bB BK853 hb
         replace HB := bS HB hb
         (try clear hb)
         refine hK.out _ _ (bS3 BK828 (bT3 BK853)) (fun hHeld => ?_)
         clear hK K
         refine nO (some 63) ?_
         refine oI 14 (some 67) HT_.out (fun K hK => ?_)
         refine gO Tryz.func14 #[.slice Ao46 t846.length co46, .string t849, .agg #[.int .i64 t850, .int .i64 t851, .bool t852]] ?_
         with_reducible refine (spec_AllSigOk.calls k1 _ _ t846 t849 t850 t851 t852 t856 _ ?side1 ?side2 A32.out).mono ?_
         (case side1 => exact cP ((Kd.Q_reads' HO848.out).2.2))
         (case side2 => exact (Kd.Q_reads' HO848.out).2.1)
         rintro e w48 ⟨rfl, hb⟩
         refine ⟨_, rfl, ?_⟩
         replace HO_3 := Aside0.mk (Kd.R_below (rP HO_3) hb)
         replace HO_4 := Aside0.mk (Kd.R_below (rP HO_4) hb)
         replace HO848 := Aside0.mk (Kd.Q_below (by (with_reducible repeat (first | apply Kd.Q_alloc | apply Kd.Q_drewN | apply Kd.Q_drew)); exact HO848.out) hb)
         replace BK828 := bB BK828 hb
         replace BK853 := bB BK853 hb
         replace HB := bS HB hb
         (try clear hb)
         refine hK.out _ _ (bS3 BK828 (bT3 BK853)) (fun hHeld => ?_)
         clear hK K
         refine nO (some 67) ?_
         refine pI 15 (some 68) HT_.out ?_
         refine pI 16 (some 69) HT_.out ?_
         refine pI 17 (some 70) HT_.out ?_
         refine tI6 19 (some 72) HT_.out HW_.out hHeld ?_
         refine oI 18 (some 71) HT_.out (fun K hK => ?_)
         refine Kd.R_lit_step k28 _ 28 ?hg (N := 71) ?hd (xs := ([] : List (S28))) (inner := []) (ok := fun _ => True) (okp := fun _ => True) ?hr ?hp (fun _ hk => hk) trivial (Below.refl _ _) (Nat.le_refl _) (by simp) ?_; (case hd => rfl); (case hg => rfl); (case hr => first | (go_simp; done) | (go_simp; rfl)); (case hp => exact (Reps.none _ _))
         intro v858 w49 ho50 hb hg_ hnew_
         clear hg_ hnew_
         (first | rw [← Ny857.out] at ho50 | (simp only [Int.reduceToNat] at ho50; rw [← Ny857.out] at ho50))
         replace HO_3 := Aside0.mk (Kd.R_below (rP HO_3) hb)
         have HO859 := Aside0.mk (Kd.R_lower (Kd.R_newB (Kd.R_newB (Kd.R_new' (Kd.R_new' ho50 (Kd.R_lt (rP HO_4))) (Kd.Q_lt (by (with_reducible repeat (first | apply Kd.Q_alloc | apply Kd.Q_drewN | apply Kd.Q_drew)); exact HO848.out))) (bP BK828)) (bP BK853)) (below_size (bZ HB)))
         replace HO_4 := Aside0.mk (Kd.R_elder' (rP HO_4) (Kd.R_base ho50) hb)
         replace HO848 := Aside0.mk (Kd.Q_elder' (by (with_reducible repeat (first | apply Kd.Q_alloc | apply Kd.Q_drewN | apply Kd.Q_drew)); exact HO848.out) (Kd.R_base ho50) hb)
         replace BK828 := bB BK828 hb
         replace BK853 := bB BK853 hb
         replace HB := bS HB hb
         clear hb ho50
         obtain ⟨Ao51, co51, eo51⟩ := Kd.R_slice HO859.out
         (first | subst eo51 | (injection eo51 with f1_ f2_ f3_; have f4_ := f1_.symm; have f5_ := f3_.symm; clear f1_ f2_ f3_; subst f4_; subst f5_))
         refine hK.out _ _ (bS3 BK828 (bT3 BK853)) (fun hHeld => ?_)
         clear hK K
         refine nO (some 71) ?_
         refine oI 20 (some 73) HT_.out (fun K hK => ?_)
         refine gO Tryz.func13 #[.slice Ao51 y857.length co51, .string (⟨#[97, 108, 108]⟩ : ByteArray), .agg #[.int .i64 x829000_1, .int .i64 x829001_1, .bool x829002_1]] ?_
         with_reducible refine (impl_AllSigOk.calls k1 _ _ y857 (⟨#[97, 108, 108]⟩ : ByteArray) x829000_1 x829001_1 x829002_1 false _ ?side1 ?side2 (Kp.Tab.below HT.out (bZ HB)) A34.out).mono ?_
         (case side1 => exact cP ((Kd.R_reads' HO859.out).2.2))
         (case side2 => exact (Kd.R_reads' HO859.out).2.1)
         rintro e w52 ⟨rfl, hb⟩
         refine ⟨_, rfl, ?_⟩
         replace HO_3 := Aside0.mk (Kd.R_below (rP HO_3) hb)
         replace HO_4 := Aside0.mk (Kd.R_below (rP HO_4) hb)
         replace HO848 := Aside0.mk (Kd.Q_below (by (with_reducible repeat (first | apply Kd.Q_alloc | apply Kd.Q_drewN | apply Kd.Q_drew)); exact HO848.out) hb)
         replace HO859 := Aside0.mk (Kd.R_below (rP HO859) hb)
         replace BK828 := bB BK828 hb
         replace BK853 := bB BK853 hb
         replace HB := bS HB hb
         (try clear hb)
         refine hK.out _ _ (bS3 BK828 (bT3 BK853)) (fun hHeld => ?_)
         clear hK K
         refine nO (some 73) ?_
         refine pI 21 (some 74) HT_.out ?_
         refine pI 22 (some 75) HT_.out ?_
         refine pI 23 (some 76) HT_.out ?_
         refine pI 25 (some 78) HT_.out ?_
         refine tI6 24 (some 77) HT_.out HW_.out hHeld ?_
         refine oI 26 (some 79) HT_.out (fun K hK => ?_)
         refine gO Tryz.func10 #[.int .i64 x6_1, .string (⟨#[97, 108, 108]⟩ : ByteArray)] ?_
         with_reducible refine (impl_SignWith.calls k1 x6_1 (⟨#[97, 108, 108]⟩ : ByteArray) t861 t862 t863 _ (Kp.Tab.below HT.out (bZ HB)) A36.out).mono ?_
         rintro e w53 ⟨rfl, hb⟩
         refine ⟨_, rfl, ?_⟩
         replace HO_3 := Aside0.mk (Kd.R_below (rP HO_3) hb)
         replace HO_4 := Aside0.mk (Kd.R_below (rP HO_4) hb)
         replace HO848 := Aside0.mk (Kd.Q_below (by (with_reducible repeat (first | apply Kd.Q_alloc | apply Kd.Q_drewN | apply Kd.Q_drew)); exact HO848.out) hb)
         replace HO859 := Aside0.mk (Kd.R_below (rP HO859) hb)
         replace BK828 := bB BK828 hb
         replace BK853 := bB BK853 hb
         replace HB := bS HB hb
         (try clear hb)
         refine hK.out _ _ (bS3 BK828 (bT3 BK853)) (fun hHeld => ?_)
         clear hK K
         refine nO (some 79) ?_
         refine pI 27 (some 80) HT_.out ?_
         refine pI 28 (some 81) HT_.out ?_
         refine pI 29 (some 2) HT_.out ?_
         refine done_ (done_of HT_.out (by kernel_rfl)) ?_
         try go_wp2
         go_ret
         exact ⟨rR, bZ HB⟩
       ·rw [if_neg c33] at H
        have c33b0 : (t855 == t856) = false := by simpa using c33
        (try (have c33b1 : decide (t855 = t856) = false := by simpa using c33))
        (try (have c33b2 : (t855 == t856) = false := by simpa using c33))
        (try (have c33b3 : ¬ (t855 = t856) := by simpa using c33))
        clear c33
        exact absurd (Option.some.inj H) (by rw [htrue.out]; exact Bool.false_ne_true)
      ·rw [if_neg c30] at H
       have c30b0 : (t854 == (x6_1 != 0)) = false := by simpa using c30
       (try (have c30b1 : decide (t854 = (x6_1 != 0)) = false := by simpa using c30))
       (try (have c30b2 : (t854 == (x6_1 != 0)) = false := by simpa using c30))
       (try (have c30b3 : ¬ (t854 = (x6_1 != 0)) := by simpa using c30))
       clear c30
       exact absurd (Option.some.inj H) (by rw [htrue.out]; exact Bool.false_ne_true)
    ·rw [if_neg c10] at H
     exact absurd H (by simp)
def laws_FnSignsTogether.Pure : Prop := ∀ (l0 : List Int), (l0.length ≤ 9223372036854775807 ∧ ∀ y1 ∈ l0, (Lit.int .u8 y1).wf = true) → ∃ k, laws_FnSignsTogether.f k l0 = some true
end Go.Proofs.YtkdmplfldfagnaaGreatDoor.Pf
end
section
namespace Go.Proofs.YtkdmplfldfagnaaGreatDoor.Crv
set_option linter.unusedVariables false
set_option linter.unusedSimpArgs false
abbrev F := Fin 12107
def pwl : Nat → F → Nat → F → F
  | 0, _, _, out => out
  | k + 1, a, n, out => if n = 0 then out else pwl k (a * a) (n / 2) (if n % 2 = 1 then out * a else out)
def inv (a : F) : F := pwl 14 a 12105 1
def npwl : Nat → Nat → Nat → Nat → Nat
  | 0, _, _, out => out
  | k + 1, a, n, out => npwl k (a * a % 12107) (n / 2) (cond (Nat.beq (n % 2) 1) (out * a % 12107) out)
theorem npwl_zero : ∀ (k a out : Nat), npwl k a 0 out = out
  | 0, _, _ => rfl
  | k + 1, a, out => by rw [npwl]; exact npwl_zero k _ _
theorem pwl_val : ∀ (k : Nat) (a : F) (n : Nat) (out : F), (pwl k a n out).val = npwl k a.val n out.val
  | 0, _, _, _ => rfl
  | k + 1, a, n, out => by
    rw [pwl, npwl]
    by_cases h : n = 0
    · subst h
      rw [if_pos rfl]
      have : npwl k (a.val * a.val % 12107) (0 / 2) (cond (Nat.beq (0 % 2) 1) (out.val * a.val % 12107) out.val) = out.val := npwl_zero _ _ _
      rw [this]
    · rw [if_neg h, pwl_val k]
      by_cases h2 : n % 2 = 1
      · rw [if_pos h2, h2]; rfl
      · rw [if_neg h2, show n % 2 = 0 by omega]; rfl
def all2 (f : Nat → Bool) : Nat → Nat → Bool
  | 0, i => f i
  | k + 1, i => cond (all2 f k i) (all2 f k (i + 2 ^ k)) false
theorem all2_ok (f : Nat → Bool) : ∀ (k i : Nat), all2 f k i = true → ∀ j, i ≤ j → j < i + 2 ^ k → f j = true
  | 0, i, h, j, h1, h2 => by
    rw [all2] at h
    have : j = i := by simp at h2; omega
    rw [this]; exact h
  | k + 1, i, h, j, h1, h2 => by
    rw [all2] at h
    cases e : all2 f k i with
    | false => rw [e] at h; cases h
    | true =>
      rw [e] at h
      rw [Nat.pow_succ] at h2
      by_cases c : j < i + 2 ^ k
      · exact all2_ok f k i e j h1 c
      · exact all2_ok f k (i + 2 ^ k) h j (by omega) (by omega)
def invchk (n : Nat) : Bool := cond (Nat.ble 12107 n) true (cond (Nat.beq n 0) (Nat.beq (npwl 14 0 12105 1) 0) (Nat.beq (n * npwl 14 n 12105 1 % 12107) 1))
theorem invchk_all : all2 invchk 14 0 = true := by decide +kernel
theorem mul_inv (a : F) (h : a ≠ 0) : a * inv a = 1 := by
  have h1 := all2_ok invchk 14 0 invchk_all a.val (by omega) (by have := a.isLt; omega)
  unfold invchk at h1
  have h2 : ¬ a.val = 0 := fun e => h (Fin.ext e)
  have h3 := a.isLt
  rw [show Nat.ble 12107 a.val = false by rw [← Bool.not_eq_true, Nat.ble_eq]; omega, show Nat.beq a.val 0 = false by rw [← Bool.not_eq_true, Nat.beq_eq]; exact h2] at h1
  have h4 := Nat.eq_of_beq_eq_true h1
  apply Fin.ext
  show a.val * (inv a).val % 12107 = 1
  rw [inv, pwl_val]; exact h4
theorem inv_zero : inv 0 = 0 := by
  apply Fin.ext; rw [inv, pwl_val]; decide +kernel
theorem mul_zero_cases (a b : F) (h : a * b = 0) : a = 0 ∨ b = 0 := by
  by_cases c : a = 0
  · exact Or.inl c
  · right
    have h1 := mul_inv a c
    generalize inv a = i at h1
    grobner
theorem cancel (a b c : F) (ha : a ≠ 0) (h : a * b = a * c) : b = c := by
  have h1 := mul_inv a ha
  generalize inv a = i at h1
  grobner
theorem two_ne : (2 : F) ≠ 0 := by decide
theorem dbl_zero (a : F) (h : a + a = 0) : a = 0 := by
  rcases mul_zero_cases 2 a (by grobner) with h1 | h1
  · exact absurd h1 two_ne
  · exact h1
def Ln (a a' b b' l : F) : Prop := a' - b' = l*(a-b) ∧ l*(a'+b') = a*a+a*b+b*b+1
def On (a a' : F) : Prop := a'*a' = a*a*a + a
theorem On.neg {a a' : F} (h : On a a') : On a (-a') := by unfold On at *; grobner
def Up (a a' b b' : F) : Prop := a = b ∧ a' + b' = 0
theorem Ln.symm {a a' b b' l : F} (h : Ln a a' b b' l) : Ln b b' a a' l := by
  obtain ⟨h1, h2⟩ := h; constructor <;> grobner
theorem Ln.flip {a a' b b' l : F} (h : Ln a a' b b' l) : Ln a (-a') b (-b') (-l) := by
  obtain ⟨h1, h2⟩ := h; constructor <;> grobner
theorem same_x {a a' b' : F} (ha : On a a') (hb : On a b') : a' = b' ∨ a' + b' = 0 := by
  unfold On at *
  rcases mul_zero_cases (a' - b') (a' + b') (by grobner) with h | h
  · left; grobner
  · exact Or.inr h
theorem not_flat {a : F} (ha : On a 0) (h : 3 * (a * a) + 1 = 0) : False := by
  unfold On at ha
  have h1 : a * (a * a + 1) = 0 := by grobner
  rcases mul_zero_cases _ _ h1 with h2 | h2
  · subst h2; exact absurd h (by decide)
  · have h3 : (2 : F) = 0 := by grobner
    exact two_ne h3
theorem Ln.unique {a a' b b' l m : F} (h : Ln a a' b b' l) (g : Ln a a' b b' m) (ha : On a a') (hb : On b b') (hu : ¬ Up a a' b b') : l = m := by
  obtain ⟨h1, h2⟩ := h
  obtain ⟨g1, g2⟩ := g
  by_cases c : a - b = 0
  · have e : a = b := by grobner
    subst e
    have hn : a' + b' ≠ 0 := fun e => hu ⟨rfl, e⟩
    exact cancel (a' + b') l m hn (by grobner)
  · exact cancel (a - b) l m c (by grobner)
theorem third_on {a a' b b' l s s' : F} (ha : On a a') (hl : Ln a a' b b' l) (hs : s = l*l - a - b) (hs' : s' = l*(a-s) - a') : On s s' := by
  unfold On Ln at *
  obtain ⟨h1, h2⟩ := hl
  subst hs hs'
  grobner
theorem third_ln {a a' b b' l s s' : F} (hl : Ln a a' b b' l) (hs : s = l*l - a - b) (hs' : s' = l*(a-s) - a') : Ln a a' s (-s') l := by
  unfold Ln at *
  obtain ⟨h1, h2⟩ := hl
  subst hs hs'
  constructor <;> grobner
theorem third_ln' {a a' b b' l s s' : F} (hl : Ln a a' b b' l) (hs : s = l*l - a - b) (hs' : s' = l*(a-s) - a') : Ln b b' s (-s') l := by
  unfold Ln at *
  obtain ⟨h1, h2⟩ := hl
  subst hs hs'
  constructor <;> grobner
theorem third_y {a a' b b' l s s' : F} (hl : Ln a a' b b' l) (hs' : s' = l*(a-s) - a') : s' = l*(b-s) - b' := by
  obtain ⟨h1, h2⟩ := hl
  clear h2
  grobner
theorem key {a a' b b' c c' l1 l2 l3 s s' : F} (hb : On b b') (h1 : Ln a a' b b' l1) (hs : s = l1*l1 - a - b) (hs' : s' = l1*(a-s) - a')
    (h2 : Ln s s' c c' l2) (h3 : Ln b b' c c' l3) (hu : ¬ Up b b' c c') (hc : On c c') : (l1 + l2) * (l1 - l3) = a - c := by
  have t := third_ln' h1 hs hs'
  have e : b + c + s + l1*l2 = (l1+l2)*l3 := by
    obtain ⟨t1, t2⟩ := t
    obtain ⟨u1, u2⟩ := h2
    obtain ⟨v1, v2⟩ := h3
    clear h1 hs hs'
    by_cases d : b - c = 0
    · have e : b = c := by grobner
      subst e
      rcases same_x hb hc with e | e
      · subst e
        have n : b' + b' ≠ 0 := fun e => hu ⟨rfl, e⟩
        refine cancel (b' + b') _ _ n ?_
        unfold On at *
        grobner
      · exact absurd ⟨rfl, e⟩ hu
    · refine cancel (b - c) _ _ d ?_
      grobner
  subst hs
  grobner
theorem assoc_x {a a' b b' c c' l1 l2 l3 l4 s s' t t' : F} (ha : On a a') (hb : On b b') (hc : On c c')
    (h1 : Ln a a' b b' l1) (hs : s = l1*l1 - a - b) (hs' : s' = l1*(a-s) - a')
    (h2 : Ln s s' c c' l2) (h3 : Ln b b' c c' l3) (ht : t = l3*l3 - b - c) (ht' : t' = l3*(b-t) - b')
    (h4 : Ln a a' t t' l4) (hab : ¬ Up a a' b b') (hbc : ¬ Up b b' c c') (hac : a ≠ c) : l1 + l2 = l3 + l4 ∧ (l1 + l2) * (l1 - l3) = a - c := by
  have k1 := key hb h1 hs hs' h2 h3 hbc hc
  have hu' : ¬ Up b b' a a' := fun ⟨e1, e2⟩ => hab ⟨e1.symm, by grobner⟩
  have k2 := key (a := c) (a' := c') (c := a) (c' := a') (l1 := l3) (l2 := l4) (l3 := l1) (s := t) (s' := t') hb h3.symm (by rw [ht]; grobner) (third_y h3 ht') h4.symm h1.symm hu' ha
  refine ⟨?_, k1⟩
  have n : l1 - l3 ≠ 0 := by
    intro e
    rw [e] at k1
    apply hac
    grobner
  exact cancel (l1 - l3) _ _ n (by grobner)
inductive Pt where
  | O : Pt
  | P (x y : F) : Pt
open Pt
def Ok : Pt → Prop
  | O => True
  | P x y => On x y
def neg : Pt → Pt
  | O => O
  | P x y => P x (-y)
def slope (x y x' y' : F) : F := if x = x' then (3 * (x * x) + 1) * inv (2 * y) else (y' - y) * inv (x' - x)
instance (a a' b b' : F) : Decidable (Up a a' b b') := by unfold Up; infer_instance
def add : Pt → Pt → Pt
  | O, q => q
  | P x y, O => P x y
  | P x y, P x' y' => if Up x y x' y' then O else P (slope x y x' y' * slope x y x' y' - x - x') (slope x y x' y' * (x - (slope x y x' y' * slope x y x' y' - x - x')) - y)
theorem slope_ln {a a' b b' : F} (ha : On a a') (hb : On b b') (hu : ¬ Up a a' b b') : Ln a a' b b' (slope a a' b b') := by
  unfold slope
  by_cases c : a = b
  · subst c
    rw [if_pos rfl]
    rcases same_x ha hb with e | e
    · subst e
      have n : 2 * a' ≠ 0 := fun e => hu ⟨rfl, by grobner⟩
      have i := mul_inv _ n
      generalize inv (2 * a') = j at *
      constructor <;> grobner
    · exact absurd ⟨rfl, e⟩ hu
  · rw [if_neg c]
    have n : b - a ≠ 0 := fun e => c (by grobner)
    have i := mul_inv _ n
    generalize inv (b - a) = j at *
    unfold On at *
    clear hu
    constructor
    · grobner
    · refine cancel (b - a) _ _ n ?_
      grobner
theorem add_P {a a' b b' l s s' : F} (ha : On a a') (hb : On b b') (hu : ¬ Up a a' b b') (hl : Ln a a' b b' l) (hs : s = l*l - a - b) (hs' : s' = l*(a-s) - a') : add (P a a') (P b b') = P s s' := by
  rw [add, if_neg hu, ← Ln.unique hl (slope_ln ha hb hu) ha hb hu, ← hs, ← hs']
theorem add_cases (a a' b b' : F) (ha : On a a') (hb : On b b') (hu : ¬ Up a a' b b') : ∃ l s s', Ln a a' b b' l ∧ s = l*l - a - b ∧ s' = l*(a-s) - a' ∧ add (P a a') (P b b') = P s s' ∧ On s s' := by
  have h := slope_ln ha hb hu
  exact ⟨_, _, _, h, rfl, rfl, add_P ha hb hu h rfl rfl, third_on ha h rfl rfl⟩
theorem Ok_neg {A : Pt} (h : Ok A) : Ok (neg A) := by
  cases A with
  | O => exact h
  | P x y => exact On.neg h
theorem neg_neg (A : Pt) : neg (neg A) = A := by
  cases A with
  | O => rfl
  | P x y => simp only [neg]; congr 1; grobner
theorem add_zero (A : Pt) : add A O = A := by cases A <;> rfl
theorem zero_add (A : Pt) : add O A = A := by cases A <;> rfl
theorem add_up {a a' b b' : F} (h : Up a a' b b') : add (P a a') (P b b') = O := by rw [add, if_pos h]
theorem Up.symm {a a' b b' : F} (h : Up a a' b b') : Up b b' a a' := ⟨h.1.symm, by have := h.2; grobner⟩
theorem add_comm (A B : Pt) (hA : Ok A) (hB : Ok B) : add A B = add B A := by
  cases A with
  | O => rw [add_zero, zero_add]
  | P a a' =>
    cases B with
    | O => rw [add_zero, zero_add]
    | P b b' =>
      by_cases hu : Up a a' b b'
      · rw [add_up hu, add_up hu.symm]
      · obtain ⟨l, s, s', hl, hs, hs', e, _⟩ := add_cases a a' b b' hA hB hu
        rw [e]
        exact (add_P hB hA (fun h => hu h.symm) hl.symm (by rw [hs]; grobner) (third_y hl hs')).symm
theorem Ok_add {A B : Pt} (hA : Ok A) (hB : Ok B) : Ok (add A B) := by
  cases A with
  | O => rw [zero_add]; exact hB
  | P a a' =>
    cases B with
    | O => rw [add_zero]; exact hA
    | P b b' =>
      by_cases hu : Up a a' b b'
      · rw [add_up hu]; trivial
      · obtain ⟨l, s, s', hl, hs, hs', e, h⟩ := add_cases a a' b b' hA hB hu
        rw [e]; exact h
theorem add_neg (A : Pt) : add A (neg A) = O := by
  cases A with
  | O => rfl
  | P a a' => exact add_up ⟨rfl, by grobner⟩
theorem neg_of_add {A B : Pt} (h : add A B = O) : B = neg A := by
  cases A with
  | O => rw [zero_add] at h; exact h
  | P a a' =>
    cases B with
    | O => rw [add_zero] at h; cases h
    | P b b' =>
      by_cases hu : Up a a' b b'
      · rw [neg, ← hu.1]; congr 1; have := hu.2; grobner
      · rw [add, if_neg hu] at h; cases h
theorem neg_add (A B : Pt) (hA : Ok A) (hB : Ok B) : neg (add A B) = add (neg A) (neg B) := by
  cases A with
  | O => rw [zero_add]; exact (zero_add _).symm
  | P a a' =>
    cases B with
    | O => rw [add_zero]; exact (add_zero _).symm
    | P b b' =>
      by_cases hu : Up a a' b b'
      · rw [add_up hu]; symm; exact add_up ⟨hu.1, by have := hu.2; grobner⟩
      · obtain ⟨l, s, s', hl, hs, hs', e, h⟩ := add_cases a a' b b' hA hB hu
        rw [e]
        exact (add_P (On.neg hA) (On.neg hB) (fun h => hu ⟨h.1, by have := h.2; grobner⟩) hl.flip (by rw [hs]; grobner) (by rw [hs']; grobner)).symm
theorem back (A C : Pt) (hA : Ok A) (hC : Ok C) : add (neg A) (add A C) = C := by
  cases A with
  | O => rfl
  | P a a' =>
    cases C with
    | O => rw [add_zero, add_comm _ _ (Ok_neg hA) hA, add_neg]
    | P c c' =>
      by_cases hu : Up a a' c c'
      · rw [add_up hu, add_zero, neg]
        rw [← hu.1]; congr 1; have := hu.2; grobner
      · obtain ⟨l, s, s', hl, hs, hs', e, h⟩ := add_cases a a' c c' hA hC hu
        rw [e]
        have t := third_ln hl hs hs'
        have hv : ¬ Up a (-a') s s' := by
          rintro ⟨e1, e2⟩
          obtain ⟨t1, t2⟩ := t
          subst e1
          have e3 : s' = a' := by grobner
          subst e3
          have e4 : s' = 0 := dbl_zero _ (by grobner)
          subst e4
          exact not_flat hA (by grobner)
        have g := t.flip
        rw [show -(-s') = s' by grobner] at g
        exact add_P (On.neg hA) h hv g (by rw [hs]; grobner) (by have := third_y hl hs'; have e1 := hl.1; rw [hs'] at *; grobner)
theorem back' (A C : Pt) (hA : Ok A) (hC : Ok C) : add A (add (neg A) C) = C := by
  have h := back (neg A) C (Ok_neg hA) hC
  rw [neg_neg] at h
  exact h
theorem back2 (A C : Pt) (hA : Ok A) (hC : Ok C) : add (add C A) (neg A) = C := by
  rw [add_comm C A hC hA, add_comm _ _ (Ok_add hA hC) (Ok_neg hA)]
  exact back A C hA hC
theorem assoc (A B C : Pt) (hA : Ok A) (hB : Ok B) (hC : Ok C) : add (add A B) C = add A (add B C) := by
  cases A with
  | O => rw [zero_add, zero_add]
  | P a a' =>
  cases B with
  | O => rw [add_zero, zero_add]
  | P b b' =>
  cases C with
  | O => rw [add_zero, add_zero]
  | P c c' =>
  by_cases hab : Up a a' b b'
  · have e : P a a' = neg (P b b') := neg_of_add (add_up hab.symm)
    rw [e, back _ _ hB hC, add_comm _ _ (Ok_neg hB) hB, add_neg, zero_add]
  by_cases hbc : Up b b' c c'
  · have e : P c c' = neg (P b b') := neg_of_add (add_up hbc)
    rw [e, back2 _ _ hB hA, add_neg, add_zero]
  by_cases hac : a = c
  · subst hac
    rcases same_x hA hC with e | e
    · subst e
      rw [add_comm _ _ (Ok_add hA hB) hA, add_comm (P b b') _ hB hA]
    · have e : P a c' = neg (P a a') := neg_of_add (add_up ⟨rfl, e⟩)
      rw [e, add_comm (P a a') _ hA hB, back2 _ _ hA hB, add_comm (P b b') _ hB (Ok_neg hA), back' _ _ hA hB]
  obtain ⟨l1, s, s', h1, hs, hs', es, os⟩ := add_cases a a' b b' hA hB hab
  obtain ⟨l3, t, t', h3, ht, ht', et, ot⟩ := add_cases b b' c c' hB hC hbc
  by_cases hsc : Up s s' c c'
  · have e : P c c' = neg (add (P a a') (P b b')) := by rw [es]; exact neg_of_add (add_up hsc)
    have e2 : add (P b b') (P c c') = neg (P a a') := by
      rw [e, neg_add _ _ hA hB, add_comm _ _ (Ok_neg hA) (Ok_neg hB)]
      exact back' _ _ hB (Ok_neg hA)
    rw [e2, add_neg, e, add_neg]
  by_cases hta : Up a a' t t'
  · have e : P a a' = neg (add (P b b') (P c c')) := by rw [et]; exact neg_of_add (add_up hta.symm)
    have e2 : add (P a a') (P b b') = neg (P c c') := by
      rw [e, neg_add _ _ hB hC, add_comm _ _ (Ok_add (Ok_neg hB) (Ok_neg hC)) hB]
      exact back' _ _ hB (Ok_neg hC)
    rw [e2, et, add_up hta, add_comm _ _ (Ok_neg hC) hC, add_neg]
  rw [es, et]
  obtain ⟨l2, u, u', h2, hu, hu', eu, ou⟩ := add_cases s s' c c' os hC hsc
  obtain ⟨l4, v, v', h4, hv, hv', ev, ov⟩ := add_cases a a' t t' hA ot hta
  rw [eu, ev]
  obtain ⟨m1, m2⟩ := assoc_x hA hB hC h1 hs hs' h2 h3 ht ht' h4 hab hbc hac
  have e1 : u = v := by
    clear h1 h2 h3 h4 hs' ht' hu' hv' hA hB hC os ot ou ov
    grobner
  subst e1
  have hu2 := third_y h2 hu'
  obtain ⟨p1, p2⟩ := h1
  obtain ⟨q1, q2⟩ := h3
  have e3 : (l1+l2)*(l1+l3-(l1+l2)) + u - b = 0 := by
    rw [hu, hs]
    clear hv ht hs' ht' hu2 hv' p1 p2 q1 q2 h2 h4 hA hB hC os ot ou ov hu'
    grobner
  have e4 : u' - v' = (l1 - l3) * ((l1+l2)*(l1+l3-(l1+l2)) + u - b) := by
    rw [hu2, hv']
    clear hu hv ht hs' ht' hs e3 p2 q2 h2 h4 hA hB hC os ot ou ov hu' hu2 hv'
    have e5 : l4 = l1 + l2 - l3 := by grobner
    have e6 : c' = a' - l1*(a-b) - l3*(b-c) := by grobner
    rw [e5, e6]
    clear e5 e6 p1 q1 m1
    grobner
  have e2 : u' = v' := by
    rw [e3] at e4
    clear hu hv ht hs' ht' hs e3 p1 p2 q1 q2 h2 h4 hA hB hC os ot ou ov hu' hu2 hv'
    grobner
  rw [e2]
end Go.Proofs.YtkdmplfldfagnaaGreatDoor.Crv
end
section
set_option linter.unusedVariables false
set_option linter.unusedSimpArgs false
namespace Go.Proofs.YtkdmplfldfagnaaGreatDoor.Link
open Go.RowKit Go.Proofs.YtkdmplfldfagnaaGreatDoor.Pf Go.Proofs.YtkdmplfldfagnaaGreatDoorW.PrintWords Go.Proofs.YtkdmplfldfagnaaGreatDoor.Crv
set_option maxRecDepth 4000
theorem wrap_in {i : Int} (h0 : -9223372036854775808 ≤ i) (h : i ≤ 9223372036854775807) : wrap64 i = i := by
  unfold wrap64; omega
def I (x : F) : Int := (x.val : Int)
def R (n : Int) : F := Fin.ofNat 12107 (n % 12107).toNat
theorem I_lt (x : F) : I x < 12107 := by have := x.isLt; unfold I; omega
theorem I_nn (x : F) : 0 ≤ I x := by unfold I; omega
theorem I_R (n : Int) : I (R n) = n % 12107 := by
  unfold I R
  show (((n % 12107).toNat % 12107 : Nat) : Int) = _
  omega
theorem R_I (x : F) : R (I x) = x := by
  apply Fin.ext
  show ((x.val : Int) % 12107).toNat % 12107 = x.val
  have := x.isLt
  omega
theorem I_inj {x y : F} (h : I x = I y) : x = y := by rw [← R_I x, h, R_I]
theorem R_small {n : Int} (h0 : 0 ≤ n) (h : n < 12107) : I (R n) = n := by rw [I_R]; omega
theorem I_add (x y : F) : I (x + y) = (((x.val + y.val) % 12107 : Nat) : Int) := rfl
theorem I_mul (x y : F) : I (x * y) = (((x.val * y.val) % 12107 : Nat) : Int) := rfl
theorem I_sub (x y : F) : I (x - y) = (((12107 - y.val + x.val) % 12107 : Nat) : Int) := rfl
theorem R_add (a b : Int) : R (a + b) = R a + R b := by
  apply I_inj
  rw [I_R, I_add]
  have h1 := I_R a
  have h2 := I_R b
  unfold I at h1 h2
  omega
theorem R_mul (a b : Int) : R (a * b) = R a * R b := by
  apply I_inj
  rw [I_R, I_mul]
  have h1 := I_R a
  have h2 := I_R b
  unfold I at h1 h2
  rw [Int.mul_emod, ← h1, ← h2, ← Int.natCast_mul]
  omega
theorem R_sub (a b : Int) : R (a - b) = R a - R b := by
  apply I_inj
  rw [I_R, I_sub]
  have h1 := I_R a
  have h2 := I_R b
  have h3 := (R b).isLt
  unfold I at h1 h2
  omega
theorem R_zero : R 0 = 0 := by decide
theorem R_one : R 1 = 1 := by decide
theorem R_two : R 2 = 2 := by decide
theorem R_three : R 3 = 3 := by decide
theorem I_zero : I 0 = 0 := by decide
theorem I_one : I 1 = 1 := by decide
theorem tmod_two (n : Int) (m : Int) (hm : 0 < m) : Int.tmod n m = n % m ∨ (Int.tmod n m = n % m - m ∧ n % m ≠ 0) := by
  rw [Int.tmod_eq_emod]
  split
  · left; omega
  · rename_i h
    right
    refine ⟨by omega, fun e => h (Or.inr (Int.dvd_of_emod_eq_zero e))⟩
theorem mul_bound (a b : F) : 0 ≤ I a * I b ∧ I a * I b ≤ 146555236 := by
  have h1 := I_nn a
  have h2 := I_nn b
  have h3 := I_lt a
  have h4 := I_lt b
  refine ⟨Int.mul_nonneg h1 h2, ?_⟩
  have := Int.mul_le_mul (show I a ≤ 12106 by omega) (show I b ≤ 12106 by omega) h2 (by decide)
  omega
theorem impl_FpOf_eq (n : Int) : impl_FpOf.f n = some (I (R n)) := by
  unfold impl_FpOf.f impl_remainder.f
  rw [if_neg (by decide)]
  rw [I_R]
  rcases tmod_two n 12107 (by decide) with h | ⟨h, h2⟩
  · rw [h, if_neg (by omega)]; rfl
  · rw [h, if_pos (by omega), wrap_in (by omega) (by omega)]
    simp
theorem impl_FpAdd_eq (a b : Int) : impl_FpAdd.f a b = some (I (R a + R b)) := by
  have h1 := I_lt (R a)
  have h2 := I_lt (R b)
  have h3 := I_nn (R a)
  have h4 := I_nn (R b)
  simp only [impl_FpAdd.f, impl_FpOf_eq, Option.bind_some]
  rw [wrap_in (by omega) (by omega), R_add, R_I, R_I]
theorem impl_FpSub_eq (a b : Int) : impl_FpSub.f a b = some (I (R a - R b)) := by
  have h1 := I_lt (R a)
  have h2 := I_lt (R b)
  have h3 := I_nn (R a)
  have h4 := I_nn (R b)
  simp only [impl_FpSub.f, impl_FpOf_eq, Option.bind_some]
  rw [wrap_in (by omega) (by omega), R_sub, R_I, R_I]
theorem impl_FpMul_eq (a b : Int) : impl_FpMul.f a b = some (I (R a * R b)) := by
  have h := mul_bound (R a) (R b)
  simp only [impl_FpMul.f, impl_FpOf_eq, Option.bind_some]
  rw [wrap_in (by omega) (by omega), R_mul, R_I, R_I]
theorem spec_FpOf_eq (n : Int) : spec_FpOf.f n = some (I (R n)) := by
  unfold spec_FpOf.f
  rw [I_R]
  rcases tmod_two n 12107 (by decide) with h | ⟨h, h2⟩
  · rw [h, if_neg (by omega)]
  · rw [h, if_pos (by omega), wrap_in (by omega) (by omega)]
    simp
theorem spec_FpAdd_eq (a b : Int) : spec_FpAdd.f a b = some (I (R a + R b)) := by
  have h1 := I_lt (R a)
  have h2 := I_lt (R b)
  have h3 := I_nn (R a)
  have h4 := I_nn (R b)
  simp only [spec_FpAdd.f, spec_FpOf_eq, Option.bind_some]
  rw [wrap_in (by omega) (by omega), R_add, R_I, R_I]
theorem spec_FpSub_eq (a b : Int) : spec_FpSub.f a b = some (I (R a - R b)) := by
  have h1 := I_lt (R a)
  have h2 := I_lt (R b)
  have h3 := I_nn (R a)
  have h4 := I_nn (R b)
  simp only [spec_FpSub.f, spec_FpOf_eq, Option.bind_some]
  rw [wrap_in (by omega) (by omega), R_sub, R_I, R_I]
theorem spec_FpMul_eq (a b : Int) : spec_FpMul.f a b = some (I (R a * R b)) := by
  have h := mul_bound (R a) (R b)
  simp only [spec_FpMul.f, spec_FpOf_eq, Option.bind_some]
  rw [wrap_in (by omega) (by omega), R_mul, R_I, R_I]
theorem halve (n : Nat) (h : n < 4611686018427387904) : wrap64 (Int.tdiv (n : Int) 2) = ((n / 2 : Nat) : Int) := by
  rw [Int.tdiv_eq_ediv_of_nonneg (by omega), wrap_in (by omega) (by omega)]; omega
theorem odd (n : Nat) : Int.tmod (n : Int) 2 = 1 ↔ n % 2 = 1 := by
  rw [Int.tmod_eq_emod_of_nonneg (by omega)]; omega
theorem tmod_mul (a b : F) : Int.tmod (wrap64 (I a * I b)) 12107 = I (a * b) := by
  have h := mul_bound a b
  rw [wrap_in (by omega) (by omega), Int.tmod_eq_emod_of_nonneg h.1, ← I_R, R_mul, R_I, R_I]
theorem impl_power_l0 : ∀ (f k : Nat) (a : F) (n : Nat) (out : F), n < 2 ^ f → f ≤ 60 → f < k → impl_powerMod.l0 k (I a) (n : Int) 12107 (I out) = some (I (pwl f a n out))
  | 0, k, a, n, out, h, _, hk => by
    obtain rfl : n = 0 := by simp at h; exact h
    obtain ⟨k, rfl⟩ : ∃ m, k = m + 1 := ⟨k - 1, by omega⟩
    simp only [impl_powerMod.l0]
    rw [if_neg (by omega), pwl]
  | f + 1, k, a, n, out, h, hf, hk => by
    obtain ⟨k, rfl⟩ : ∃ m, k = m + 1 := ⟨k - 1, by omega⟩
    have hb : 2 ^ (f + 1) ≤ 2 ^ 60 := Nat.pow_le_pow_right (by decide) hf
    simp only [impl_powerMod.l0]
    rw [pwl]
    by_cases c : n = 0
    · subst c; rw [if_neg (by omega), if_pos rfl]
    rw [if_pos (by omega), if_neg c, halve n (by omega)]
    rw [Nat.pow_succ] at h
    by_cases d : n % 2 = 1
    · rw [if_pos ((odd n).mpr d), if_pos d, if_neg (by decide), tmod_mul, tmod_mul, impl_power_l0 f k _ _ _ (by omega) (by omega) (by omega)]
    · rw [if_neg (fun e => d ((odd n).mp e)), if_neg d, if_neg (by decide), tmod_mul, impl_power_l0 f k _ _ _ (by omega) (by omega) (by omega)]
theorem impl_power_eq (k : Nat) (a : Int) (n f : Nat) (h : n < 2 ^ f) (hf : f ≤ 60) (hk : f < k) : impl_powerMod.f k a (n : Int) 12107 = some (I (pwl f (R a) n 1)) := by
  have e := impl_FpOf_eq a
  unfold impl_FpOf.f at e
  have e2 : impl_remainder.f a 12107 = some (I (R a)) := by
    cases h : impl_remainder.f a 12107 with
    | none => rw [h] at e; cases e
    | some v => rw [h] at e; exact e
  simp only [impl_powerMod.f, e2, Option.bind_some]
  have := impl_power_l0 f k (R a) n 1 h hf hk
  rw [I_one] at this
  exact this
theorem spec_power_l0 : ∀ (f k : Nat) (a : F) (n : Nat) (out : F), n < 2 ^ f → f ≤ 60 → f < k → spec_FpPow.l0 k (n : Int) (I out) (I a) = some (I (pwl f a n out))
  | 0, k, a, n, out, h, _, hk => by
    obtain rfl : n = 0 := by simp at h; exact h
    obtain ⟨k, rfl⟩ : ∃ m, k = m + 1 := ⟨k - 1, by omega⟩
    simp only [spec_FpPow.l0]
    rw [if_neg (by omega), pwl]
  | f + 1, k, a, n, out, h, hf, hk => by
    obtain ⟨k, rfl⟩ : ∃ m, k = m + 1 := ⟨k - 1, by omega⟩
    have hb : 2 ^ (f + 1) ≤ 2 ^ 60 := Nat.pow_le_pow_right (by decide) hf
    simp only [spec_FpPow.l0, spec_FpMul_eq, Option.bind_some, R_I]
    rw [pwl]
    by_cases c : n = 0
    · subst c; rw [if_neg (by omega), if_pos rfl]
    rw [if_pos (by omega), if_neg c, halve n (by omega)]
    rw [Nat.pow_succ] at h
    by_cases d : n % 2 = 1
    · rw [if_pos ((odd n).mpr d), if_pos d, spec_power_l0 f k _ _ _ (by omega) (by omega) (by omega)]
    · rw [if_neg (fun e => d ((odd n).mp e)), if_neg d, spec_power_l0 f k _ _ _ (by omega) (by omega) (by omega)]
theorem spec_power_eq (k : Nat) (a : Int) (n f : Nat) (h : n < 2 ^ f) (hf : f ≤ 60) (hk : f < k) : spec_FpPow.f k a (n : Int) = some (I (pwl f (R a) n 1)) := by
  simp only [spec_FpPow.f, spec_FpOf_eq, Option.bind_some]
  rw [if_neg (by omega)]
  have := spec_power_l0 f k (R a) n 1 h hf hk
  rw [I_one] at this
  exact this
theorem impl_FpInv_eq (k : Nat) (a : Int) (hk : 15 ≤ k) : impl_FpInv.f k a = some (I (inv (R a))) := by
  have h := impl_power_eq k a 12105 14 (by decide) (by decide) (by omega)
  have e : ((12105 : Nat) : Int) = 12105 := rfl
  rw [e] at h
  simp only [impl_FpInv.f, h, Option.bind_some, inv]
theorem spec_FpInv_eq (k : Nat) (a : Int) (hk : 15 ≤ k) : spec_FpInv.f k a = some (I (inv (R a))) := by
  have h := spec_power_eq k a 12105 14 (by decide) (by decide) (by omega)
  have e : ((12105 : Nat) : Int) = 12105 := rfl
  rw [e] at h
  simp only [spec_FpInv.f, h, Option.bind_some, inv]
end Go.Proofs.YtkdmplfldfagnaaGreatDoor.Link
end
