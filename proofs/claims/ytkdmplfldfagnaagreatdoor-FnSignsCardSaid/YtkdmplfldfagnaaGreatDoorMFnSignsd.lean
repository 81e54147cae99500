/- What is proved here: part 4 of 5 of the proof of the given statement FnSigns: the contracts of the Go functions that it reaches, the plain facts on lists and numbers, and (in the last part) the statement itself. No conditions beyond the given ones. -/
import Derived.Test.YtkdmplfldfagnaaGreatDoorMFnSignswSlim
import Derived.Test.YtkdmplfldfagnaaGreatDoorMFnSignsa
import Derived.Test.YtkdmplfldfagnaaGreatDoorMFnSignsc
import Derived.Test.YtkdmplfldfagnaaGreatDoorMFnSignsb

section
namespace Go.Proofs.YtkdmplfldfagnaaGreatDoor.Pf
open Go.RowKit Go.Proofs.YtkdmplfldfagnaaGreatDoorW.PrintWords Go.Proofs.YtkdmplfldfagnaaGreatDoorW.PrintLast Go.Proofs.YtkdmplfldfagnaaGreatDoorW.PrintMore
attribute [local go_sem] max2_int min2_int max_two min_two max_three min_three max_four min_four   -- for this text's walks alone
set_option linter.unusedVariables false
set_option linter.unusedSimpArgs false
def impl_PairLine.j0 : Nat → Bool → Int → Int → Bool → Int → Int → Bool → Int → Int → Bool → Int → Int → Option (Int × Int)
 | 0, _, _, _, _, _, _, _, _, _, _, _, _ => none
 | k + 1, x36, x486000, x486001, x486002, x487000, x487001, x487002, x488000, x488001, x488002, x490000, x490001 => if x36 = true then (some (x490000, x490001)) else ((impl_slopeOf.f k x486000 x486001 x486002 x487000 x487001 x487002).bind fun bt493 => (if bt493.2 = true then ((impl_FpSub.f 0 x488000).bind fun t495 => ((impl_FpSub.f t495 x486000).bind fun t496 => ((impl_FpSub.f 0 x486001).bind fun t497 => ((impl_FpMul.f bt493.1 t496).bind fun t498 => ((impl_FpSub.f t497 t498).bind fun t499 => (some (t499, x488001))))))) else (some (x490000, x490001))))
def impl_PairLine.f (k : Nat) (a0_0 : Int) (a0_1 : Int) (a0_2 : Bool) (a1_0 : Int) (a1_1 : Int) (a1_2 : Bool) (a2_0 : Int) (a2_1 : Int) (a2_2 : Bool) : Option (Int × Int) := if a0_2 = true then (impl_PairLine.j0 k true a0_0 a0_1 a0_2 a1_0 a1_1 a1_2 a2_0 a2_1 a2_2 1 0) else (if a1_2 = true then (impl_PairLine.j0 k true a0_0 a0_1 a0_2 a1_0 a1_1 a1_2 a2_0 a2_1 a2_2 1 0) else (if a2_2 = true then (impl_PairLine.j0 k true a0_0 a0_1 a0_2 a1_0 a1_1 a1_2 a2_0 a2_1 a2_2 1 0) else ((impl_PointOk.f a0_0 a0_1 a0_2).bind fun t490 => (if t490 = true then ((impl_PointOk.f a1_0 a1_1 a1_2).bind fun t491 => (if t491 = true then ((impl_PointOk.f a2_0 a2_1 a2_2).bind fun t492 => (impl_PairLine.j0 k (!t492) a0_0 a0_1 a0_2 a1_0 a1_1 a1_2 a2_0 a2_1 a2_2 1 0)) else (impl_PairLine.j0 k true a0_0 a0_1 a0_2 a1_0 a1_1 a1_2 a2_0 a2_1 a2_2 1 0))) else (impl_PairLine.j0 k true a0_0 a0_1 a0_2 a1_0 a1_1 a1_2 a2_0 a2_1 a2_2 1 0)))))
def impl_PairLine.T8 : Bool × List (List Nat × List Nat) := (true, [([], []), ([0], [0]), ([1], [1]), ([], []), ([], []), ([3, 4, 2], [3, 4]), ([2, 5, 5], [2, 5]), ([], []), ([7], [7]), ([6, 8], [6, 8]), ([9, 6, 0, 1, 2, 3, 4, 5, 6, 7, 8, 9], [9])])
def impl_PairLine.B8 : List Nat := [0, 1, 3, 0, 0, 31, 63, 0, 128, 511, 1023]
theorem impl_PairLine.tab8 : rtab .any (opsOf Tryz.f136 8) = impl_PairLine.T8 := by kernel_rfl
theorem impl_PairLine.bits8 : waitsOk impl_PairLine.T8.2 impl_PairLine.B8 = true := by kernel_rfl
set_option maxHeartbeats 8000000 in
set_option maxRecDepth 100000 in
theorem impl_PairLine.calls (k : Nat) (a0_0 : Int) (a0_1 : Int) (a0_2 : Bool) (a1_0 : Int) (a1_1 : Int) (a1_2 : Bool) (a2_0 : Int) (a2_1 : Int) (a2_2 : Bool) (r1 : Int) (r2 : Int) (w : World) (h : impl_PairLine.f k a0_0 a0_1 a0_2 a1_0 a1_1 a1_2 a2_0 a2_1 a2_2 = some (r1, r2)) :
  Calls Tryz.prog 136 #[.agg #[.int .i64 a0_0, .int .i64 a0_1, .bool a0_2], .agg #[.int .i64 a1_0, .int .i64 a1_1, .bool a1_2], .agg #[.int .i64 a2_0, .int .i64 a2_1, .bool a2_2]] w fun e w' => e = .returned (.agg #[.int .i64 r1, .int .i64 r2]) ∧ Below w.heap.size w w' := by
 have hu28 := Tryz.underlying28
 have hu75 := Tryz.underlying75
 have HB := Aside0.mk (Below.refl w.heap.size w)
 have H : (if a0_2 = true then (impl_PairLine.j0 k true a0_0 a0_1 a0_2 a1_0 a1_1 a1_2 a2_0 a2_1 a2_2 1 0) else (if a1_2 = true then (impl_PairLine.j0 k true a0_0 a0_1 a0_2 a1_0 a1_1 a1_2 a2_0 a2_1 a2_2 1 0) else (if a2_2 = true then (impl_PairLine.j0 k true a0_0 a0_1 a0_2 a1_0 a1_1 a1_2 a2_0 a2_1 a2_2 1 0) else ((impl_PointOk.f a0_0 a0_1 a0_2).bind fun t490 => (if t490 = true then ((impl_PointOk.f a1_0 a1_1 a1_2).bind fun t491 => (if t491 = true then ((impl_PointOk.f a2_0 a2_1 a2_2).bind fun t492 => (impl_PairLine.j0 k (!t492) a0_0 a0_1 a0_2 a1_0 a1_1 a1_2 a2_0 a2_1 a2_2 1 0)) else (impl_PairLine.j0 k true a0_0 a0_1 a0_2 a1_0 a1_1 a1_2 a2_0 a2_1 a2_2 1 0))) else (impl_PairLine.j0 k true a0_0 a0_1 a0_2 a1_0 a1_1 a1_2 a2_0 a2_1 a2_2 1 0)))))) = some (r1, r2) := h
 clear h
 have HC4 := Aside0.mk H
 clear H
 go_enter Tryz.func136, Tryz.ntmps136
 go_upto_region 2 with (first | (refine gB 3 #[.int .i64 a0_0, .int .i64 a0_1, .bool a0_2] 28 ?_; intro gb485 hg w5 BK485 hb; have GW485 := bG HB hg; replace HB := bS HB hb; clear hb hg) | (refine gB 4 #[.int .i64 a1_0, .int .i64 a1_1, .bool a1_2] 28 ?_; intro gb486 hg w6 BK486 hb; have GW486 := bG HB hg; replace HB := bS HB hb; obtain ⟨NB485_486, NB486_485⟩ := bN BK485 hg; replace BK485 := bB BK485 hb; clear hb hg) | (refine gB 5 #[.int .i64 a2_0, .int .i64 a2_1, .bool a2_2] 28 ?_; intro gb487 hg w7 BK487 hb; have GW487 := bG HB hg; replace HB := bS HB hb; obtain ⟨NB485_487, NB487_485⟩ := bN BK485 hg; replace BK485 := bB BK485 hb; obtain ⟨NB486_487, NB487_486⟩ := bN BK486 hg; replace BK486 := bB BK486 hb; clear hb hg) | (refine gB 6 #[.int .i64 0, .int .i64 0] 75 ?_; intro gb488 hg w8 BK488 hb; have GW488 := bG HB hg; replace HB := bS HB hb; obtain ⟨NB485_488, NB488_485⟩ := bN BK485 hg; replace BK485 := bB BK485 hb; obtain ⟨NB486_488, NB488_486⟩ := bN BK486 hg; replace BK486 := bB BK486 hb; obtain ⟨NB487_488, NB488_487⟩ := bN BK487 hg; replace BK487 := bB BK487 hb; clear hb hg) | (refine gB 7 #[.int .i64 0, .int .i64 0] 75 ?_; intro gb489 hg w9 BK489 hb; have GW489 := bG HB hg; replace HB := bS HB hb; obtain ⟨NB485_489, NB489_485⟩ := bN BK485 hg; replace BK485 := bB BK485 hb; obtain ⟨NB486_489, NB489_486⟩ := bN BK486 hg; replace BK486 := bB BK486 hb; obtain ⟨NB487_489, NB489_487⟩ := bN BK487 hg; replace BK487 := bB BK487 hb; obtain ⟨NB488_489, NB489_488⟩ := bN BK488 hg; replace BK488 := bB BK488 hb; clear hb hg; obtain ⟨hnb10, hnc10⟩ := nB NB489_485; obtain ⟨hnb11, hnc11⟩ := nB NB489_486; obtain ⟨hnb12, hnc12⟩ := nB NB489_487; obtain ⟨hnb13, hnc13⟩ := nB NB489_488; obtain ⟨hcz14_0, hcz14_1, hfz14_0, hfz14_1⟩ := bK2 (w := w9) BK489))
 (try simp only [Act.put, List.setIfInBounds_toArray, List.set_cons_zero, List.set_cons_succ])
 go_cut [36] (fun v36 wc => ∃ (kq : Nat) (x36_3 : Bool), v36 = .bool x36_3 ∧ Aside0 (impl_PairLine.j0 kq x36_3 a0_0 a0_1 a0_2 a1_0 a1_1 a1_2 a2_0 a2_1 a2_2 1 0 = some (r1, r2)) ∧ Aside0 (kq ≤ k) ∧ Aside0 (wc.heap[gb485]? = some (.cells #[.int .i64 a0_0, .int .i64 a0_1, .bool a0_2] 28 (0, 0))) ∧ Aside0 (wc.heap[gb486]? = some (.cells #[.int .i64 a1_0, .int .i64 a1_1, .bool a1_2] 28 (0, 0))) ∧ Aside0 (wc.heap[gb487]? = some (.cells #[.int .i64 a2_0, .int .i64 a2_1, .bool a2_2] 28 (0, 0))) ∧ Aside0 (wc.heap[gb488]? = some (.cells #[.int .i64 0, .int .i64 0] 75 (0, 0))) ∧ Aside0 (wc.heap[gb489]? = some (.cells #[.int .i64 1, .int .i64 0] 75 (0, 0))) ∧ Aside0 (Below w.heap.size w wc))
 case first =>
  have H := HC4.out
  clear HC4
  by_cases c15 : a0_2 = true
  ·subst c15
   rw [if_pos rfl] at H
   have H' := Aside0.mk H
   clear H
   obtain ⟨hnb16, hnc16⟩ := nB NB485_486
   obtain ⟨hnb17, hnc17⟩ := nB NB485_487
   obtain ⟨hnb18, hnc18⟩ := nB NB485_488
   obtain ⟨hnb19, hnc19⟩ := nB NB485_489
   obtain ⟨hcz20_0, hcz20_1, hcz20_2, hfz20_0, hfz20_1, hfz20_2⟩ := bK3 (w := w9) BK485
   go_wp2
   go_meet
   case rel => exact ⟨_, (true), rS, H', ⟨by first | omega | exact Nat.le_refl _⟩, ⟨bP BK485⟩, ⟨bP BK486⟩, ⟨bP BK487⟩, ⟨bP BK488⟩, ⟨bU BK489⟩, ⟨bZ HB⟩⟩
  ·replace c15 := Bool.eq_false_iff.mpr c15
   subst c15
   rw [if_neg (show ¬ (false = true) by decide)] at H
   by_cases c21 : a1_2 = true
   ·subst c21
    rw [if_pos rfl] at H
    have H' := Aside0.mk H
    clear H
    obtain ⟨hnb22, hnc22⟩ := nB NB485_486
    obtain ⟨hnb23, hnc23⟩ := nB NB485_487
    obtain ⟨hnb24, hnc24⟩ := nB NB485_488
    obtain ⟨hnb25, hnc25⟩ := nB NB485_489
    obtain ⟨hcz26_0, hcz26_1, hcz26_2, hfz26_0, hfz26_1, hfz26_2⟩ := bK3 (w := w9) BK485
    obtain ⟨hnb27, hnc27⟩ := nB NB486_487
    obtain ⟨hnb28, hnc28⟩ := nB NB486_488
    obtain ⟨hnb29, hnc29⟩ := nB NB486_489
    obtain ⟨hcz30_0, hcz30_1, hcz30_2, hfz30_0, hfz30_1, hfz30_2⟩ := bK3 (w := w9) BK486
    go_wp2
    go_meet
    case rel => exact ⟨_, (true), rS, H', ⟨by first | omega | exact Nat.le_refl _⟩, ⟨bP BK485⟩, ⟨bP BK486⟩, ⟨bP BK487⟩, ⟨bP BK488⟩, ⟨bU BK489⟩, ⟨bZ HB⟩⟩
   ·replace c21 := Bool.eq_false_iff.mpr c21
    subst c21
    rw [if_neg (show ¬ (false = true) by decide)] at H
    by_cases c31 : a2_2 = true
    ·subst c31
     rw [if_pos rfl] at H
     have H' := Aside0.mk H
     clear H
     obtain ⟨hnb32, hnc32⟩ := nB NB485_486
     obtain ⟨hnb33, hnc33⟩ := nB NB485_487
     obtain ⟨hnb34, hnc34⟩ := nB NB485_488
     obtain ⟨hnb35, hnc35⟩ := nB NB485_489
     obtain ⟨hcz36_0, hcz36_1, hcz36_2, hfz36_0, hfz36_1, hfz36_2⟩ := bK3 (w := w9) BK485
     obtain ⟨hnb37, hnc37⟩ := nB NB486_487
     obtain ⟨hnb38, hnc38⟩ := nB NB486_488
     obtain ⟨hnb39, hnc39⟩ := nB NB486_489
     obtain ⟨hcz40_0, hcz40_1, hcz40_2, hfz40_0, hfz40_1, hfz40_2⟩ := bK3 (w := w9) BK486
     obtain ⟨hnb41, hnc41⟩ := nB NB487_488
     obtain ⟨hnb42, hnc42⟩ := nB NB487_489
     obtain ⟨hcz43_0, hcz43_1, hcz43_2, hfz43_0, hfz43_1, hfz43_2⟩ := bK3 (w := w9) BK487
     go_wp2
     go_meet
     case rel => exact ⟨_, (true), rS, H', ⟨by first | omega | exact Nat.le_refl _⟩, ⟨bP BK485⟩, ⟨bP BK486⟩, ⟨bP BK487⟩, ⟨bP BK488⟩, ⟨bU BK489⟩, ⟨bZ HB⟩⟩
    ·replace c31 := Bool.eq_false_iff.mpr c31
     subst c31
     rw [if_neg (show ¬ (false = true) by decide)] at H
     replace H := Option.bind_eq_some_iff.mp H
     obtain ⟨t490, A440, H⟩ := H
     have A44 := Aside0.mk A440
     clear A440
     by_cases c45 : t490 = true
     ·subst c45
      rw [if_pos rfl] at H
      replace H := Option.bind_eq_some_iff.mp H
      obtain ⟨t491, A460, H⟩ := H
      have A46 := Aside0.mk A460
      clear A460
      by_cases c47 : t491 = true
      ·subst c47
       rw [if_pos rfl] at H
       replace H := Option.bind_eq_some_iff.mp H
       obtain ⟨t492, A480, H⟩ := H
       have A48 := Aside0.mk A480
       clear A480
       have H' := Aside0.mk H
       clear H
       obtain ⟨hnb49, hnc49⟩ := nB NB485_486
       obtain ⟨hnb50, hnc50⟩ := nB NB485_487
       obtain ⟨hnb51, hnc51⟩ := nB NB485_488
       obtain ⟨hnb52, hnc52⟩ := nB NB485_489
       obtain ⟨hcz53_0, hcz53_1, hcz53_2, hfz53_0, hfz53_1, hfz53_2⟩ := bK3 (w := w9) BK485
       obtain ⟨hnb54, hnc54⟩ := nB NB486_487
       obtain ⟨hnb55, hnc55⟩ := nB NB486_488
       obtain ⟨hnb56, hnc56⟩ := nB NB486_489
       obtain ⟨hcz57_0, hcz57_1, hcz57_2, hfz57_0, hfz57_1, hfz57_2⟩ := bK3 (w := w9) BK486
       obtain ⟨hnb58, hnc58⟩ := nB NB487_488
       obtain ⟨hnb59, hnc59⟩ := nB NB487_489
       obtain ⟨hcz60_0, hcz60_1, hcz60_2, hfz60_0, hfz60_1, hfz60_2⟩ := bK3 (w := w9) BK487
       go_wp2_with (first | (go_at_call 47; (with_reducible refine (impl_PointOk.calls a0_0 a0_1 false true _ A44.out).mono ?_); rintro e w61 ⟨rfl, hb⟩; replace BK485 := bB BK485 hb; replace BK486 := bB BK486 hb; replace BK487 := bB BK487 hb; replace BK488 := bB BK488 hb; replace BK489 := bV 75 #[.int .i64 1, .int .i64 0] BK489 hb; replace HB := bS HB hb; (try clear hb); obtain ⟨hcz62_0, hcz62_1, hcz62_2, hfz62_0, hfz62_1, hfz62_2⟩ := bK3 (w := w61) BK486) | (go_at_call 47; (with_reducible refine (impl_PointOk.calls a1_0 a1_1 false true _ A46.out).mono ?_); rintro e w63 ⟨rfl, hb⟩; replace BK485 := bB BK485 hb; replace BK486 := bB BK486 hb; replace BK487 := bB BK487 hb; replace BK488 := bB BK488 hb; replace BK489 := bB BK489 hb; replace HB := bS HB hb; (try clear hb); obtain ⟨hcz64_0, hcz64_1, hcz64_2, hfz64_0, hfz64_1, hfz64_2⟩ := bK3 (w := w63) BK487) | (go_at_call 47; (with_reducible refine (impl_PointOk.calls a2_0 a2_1 false t492 _ A48.out).mono ?_); rintro e w65 ⟨rfl, hb⟩; replace BK485 := bB BK485 hb; replace BK486 := bB BK486 hb; replace BK487 := bB BK487 hb; replace BK488 := bB BK488 hb; replace BK489 := bB BK489 hb; replace HB := bS HB hb; (try clear hb)))
       go_meet
       case rel => exact ⟨_, (!t492), rS, H', ⟨by first | omega | exact Nat.le_refl _⟩, ⟨bP BK485⟩, ⟨bP BK486⟩, ⟨bP BK487⟩, ⟨bP BK488⟩, ⟨bP BK489⟩, ⟨bZ HB⟩⟩
      ·replace c47 := Bool.eq_false_iff.mpr c47
       subst c47
       rw [if_neg (show ¬ (false = true) by decide)] at H
       have H' := Aside0.mk H
       clear H
       obtain ⟨hnb66, hnc66⟩ := nB NB485_486
       obtain ⟨hnb67, hnc67⟩ := nB NB485_487
       obtain ⟨hnb68, hnc68⟩ := nB NB485_488
       obtain ⟨hnb69, hnc69⟩ := nB NB485_489
       obtain ⟨hcz70_0, hcz70_1, hcz70_2, hfz70_0, hfz70_1, hfz70_2⟩ := bK3 (w := w9) BK485
       obtain ⟨hnb71, hnc71⟩ := nB NB486_487
       obtain ⟨hnb72, hnc72⟩ := nB NB486_488
       obtain ⟨hnb73, hnc73⟩ := nB NB486_489
       obtain ⟨hcz74_0, hcz74_1, hcz74_2, hfz74_0, hfz74_1, hfz74_2⟩ := bK3 (w := w9) BK486
       obtain ⟨hnb75, hnc75⟩ := nB NB487_488
       obtain ⟨hnb76, hnc76⟩ := nB NB487_489
       obtain ⟨hcz77_0, hcz77_1, hcz77_2, hfz77_0, hfz77_1, hfz77_2⟩ := bK3 (w := w9) BK487
       go_wp2_with (first | (go_at_call 47; (with_reducible refine (impl_PointOk.calls a0_0 a0_1 false true _ A44.out).mono ?_); rintro e w78 ⟨rfl, hb⟩; replace BK485 := bB BK485 hb; replace BK486 := bB BK486 hb; replace BK487 := bB BK487 hb; replace BK488 := bB BK488 hb; replace BK489 := bV 75 #[.int .i64 1, .int .i64 0] BK489 hb; replace HB := bS HB hb; (try clear hb); obtain ⟨hcz79_0, hcz79_1, hcz79_2, hfz79_0, hfz79_1, hfz79_2⟩ := bK3 (w := w78) BK486) | (go_at_call 47; (with_reducible refine (impl_PointOk.calls a1_0 a1_1 false false _ A46.out).mono ?_); rintro e w80 ⟨rfl, hb⟩; replace BK485 := bB BK485 hb; replace BK486 := bB BK486 hb; replace BK487 := bB BK487 hb; replace BK488 := bB BK488 hb; replace BK489 := bB BK489 hb; replace HB := bS HB hb; (try clear hb)))
       go_meet
       case rel => exact ⟨_, (true), rS, H', ⟨by first | omega | exact Nat.le_refl _⟩, ⟨bP BK485⟩, ⟨bP BK486⟩, ⟨bP BK487⟩, ⟨bP BK488⟩, ⟨bP BK489⟩, ⟨bZ HB⟩⟩
     ·replace c45 := Bool.eq_false_iff.mpr c45
      subst c45
      rw [if_neg (show ¬ (false = true) by decide)] at H
      have H' := Aside0.mk H
      clear H
      obtain ⟨hnb81, hnc81⟩ := nB NB485_486
      obtain ⟨hnb82, hnc82⟩ := nB NB485_487
      obtain ⟨hnb83, hnc83⟩ := nB NB485_488
      obtain ⟨hnb84, hnc84⟩ := nB NB485_489
      obtain ⟨hcz85_0, hcz85_1, hcz85_2, hfz85_0, hfz85_1, hfz85_2⟩ := bK3 (w := w9) BK485
      obtain ⟨hnb86, hnc86⟩ := nB NB486_487
      obtain ⟨hnb87, hnc87⟩ := nB NB486_488
      obtain ⟨hnb88, hnc88⟩ := nB NB486_489
      obtain ⟨hcz89_0, hcz89_1, hcz89_2, hfz89_0, hfz89_1, hfz89_2⟩ := bK3 (w := w9) BK486
      obtain ⟨hnb90, hnc90⟩ := nB NB487_488
      obtain ⟨hnb91, hnc91⟩ := nB NB487_489
      obtain ⟨hcz92_0, hcz92_1, hcz92_2, hfz92_0, hfz92_1, hfz92_2⟩ := bK3 (w := w9) BK487
      go_wp2_with (first | (go_at_call 47; (with_reducible refine (impl_PointOk.calls a0_0 a0_1 false false _ A44.out).mono ?_); rintro e w93 ⟨rfl, hb⟩; replace BK485 := bB BK485 hb; replace BK486 := bB BK486 hb; replace BK487 := bB BK487 hb; replace BK488 := bB BK488 hb; replace BK489 := bV 75 #[.int .i64 1, .int .i64 0] BK489 hb; replace HB := bS HB hb; (try clear hb)))
      go_meet
      case rel => exact ⟨_, (true), rS, H', ⟨by first | omega | exact Nat.le_refl _⟩, ⟨bP BK485⟩, ⟨bP BK486⟩, ⟨bP BK487⟩, ⟨bP BK488⟩, ⟨bP BK489⟩, ⟨bZ HB⟩⟩
 case rest =>
  clear HC4
  try clear c1
  try clear c2
  try clear p2
  try clear c3
  try clear c4
  try clear c5
  try clear c6
  try clear c7
  try clear c8
  try clear c9
  try clear c10
  try clear c11
  try clear c12
  try clear c13
  try clear c15
  try clear c16
  try clear c17
  try clear c18
  try clear c19
  try clear c21
  try clear c22
  try clear c23
  try clear c24
  try clear c25
  try clear c27
  try clear c28
  try clear c29
  try clear c31
  try clear c32
  try clear c33
  try clear c34
  try clear c35
  try clear c37
  try clear c38
  try clear c39
  try clear c41
  try clear c42
  try clear c45
  try clear c47
  try clear c49
  try clear c50
  try clear c51
  try clear c52
  try clear c54
  try clear c55
  try clear c56
  try clear c58
  try clear c59
  try clear c66
  try clear c67
  try clear c68
  try clear c69
  try clear c71
  try clear c72
  try clear c73
  try clear c75
  try clear c76
  try clear c81
  try clear c82
  try clear c83
  try clear c84
  try clear c86
  try clear c87
  try clear c88
  try clear c90
  try clear c91
  try clear hcz14_0
  try clear hcz14_1
  try clear hcz20_0
  try clear hcz20_1
  try clear hcz20_2
  try clear hcz26_0
  try clear hcz26_1
  try clear hcz26_2
  try clear hcz30_0
  try clear hcz30_1
  try clear hcz30_2
  try clear hcz36_0
  try clear hcz36_1
  try clear hcz36_2
  try clear hcz40_0
  try clear hcz40_1
  try clear hcz40_2
  try clear hcz43_0
  try clear hcz43_1
  try clear hcz43_2
  try clear hcz53_0
  try clear hcz53_1
  try clear hcz53_2
  try clear hcz57_0
  try clear hcz57_1
  try clear hcz57_2
  try clear hcz60_0
  try clear hcz60_1
  try clear hcz60_2
  try clear hcz62_0
  try clear hcz62_1
  try clear hcz62_2
  try clear hcz64_0
  try clear hcz64_1
  try clear hcz64_2
  try clear hcz70_0
  try clear hcz70_1
  try clear hcz70_2
  try clear hcz74_0
  try clear hcz74_1
  try clear hcz74_2
  try clear hcz77_0
  try clear hcz77_1
  try clear hcz77_2
  try clear hcz79_0
  try clear hcz79_1
  try clear hcz79_2
  try clear hcz85_0
  try clear hcz85_1
  try clear hcz85_2
  try clear hcz89_0
  try clear hcz89_1
  try clear hcz89_2
  try clear hcz92_0
  try clear hcz92_1
  try clear hcz92_2
  try clear hfz14_0
  try clear hfz14_1
  try clear hfz20_0
  try clear hfz20_1
  try clear hfz20_2
  try clear hfz26_0
  try clear hfz26_1
  try clear hfz26_2
  try clear hfz30_0
  try clear hfz30_1
  try clear hfz30_2
  try clear hfz36_0
  try clear hfz36_1
  try clear hfz36_2
  try clear hfz40_0
  try clear hfz40_1
  try clear hfz40_2
  try clear hfz43_0
  try clear hfz43_1
  try clear hfz43_2
  try clear hfz53_0
  try clear hfz53_1
  try clear hfz53_2
  try clear hfz57_0
  try clear hfz57_1
  try clear hfz57_2
  try clear hfz60_0
  try clear hfz60_1
  try clear hfz60_2
  try clear hfz62_0
  try clear hfz62_1
  try clear hfz62_2
  try clear hfz64_0
  try clear hfz64_1
  try clear hfz64_2
  try clear hfz70_0
  try clear hfz70_1
  try clear hfz70_2
  try clear hfz74_0
  try clear hfz74_1
  try clear hfz74_2
  try clear hfz77_0
  try clear hfz77_1
  try clear hfz77_2
  try clear hfz79_0
  try clear hfz79_1
  try clear hfz79_2
  try clear hfz85_0
  try clear hfz85_1
  try clear hfz85_2
  try clear hfz89_0
  try clear hfz89_1
  try clear hfz89_2
  try clear hfz92_0
  try clear hfz92_1
  try clear hfz92_2
  obtain ⟨kq, x36_3, rfl, HA, HJ3, BK485, BK486, BK487, BK488, BK489, HB⟩ := hcut
  cases kq with
  | zero => exact absurd HA.out (by simp [impl_PairLine.j0])
  | succ kj3 =>
   have H := HA.out
   clear HA
   simp only [impl_PairLine.j0] at H
   by_cases c94 : x36_3 = true
   ·subst c94
    rw [if_pos rfl] at H
    simp only [Option.some.injEq, Prod.mk.injEq] at H
    obtain ⟨rfl, rfl⟩ := H
    obtain ⟨hnb95, hnc95⟩ := nB NB489_485
    obtain ⟨hnb96, hnc96⟩ := nB NB489_486
    obtain ⟨hnb97, hnc97⟩ := nB NB489_487
    obtain ⟨hnb98, hnc98⟩ := nB NB489_488
    obtain ⟨hcz99_0, hcz99_1, hfz99_0, hfz99_1⟩ := bK2 (w := wc) BK489
    obtain ⟨hnb100, hnc100⟩ := nB NB488_485
    obtain ⟨hnb101, hnc101⟩ := nB NB488_486
    obtain ⟨hnb102, hnc102⟩ := nB NB488_487
    obtain ⟨hcz103_0, hcz103_1, hfz103_0, hfz103_1⟩ := bK2 (w := wc) BK488
    go_wp2
    refine rC gb488 75 #[.int .i64 1, .int .i64 0] (bU BK488) Tryz.underlying75 ?_
    exact ⟨rR, bZ HB⟩
   ·replace c94 := Bool.eq_false_iff.mpr c94
    subst c94
    rw [if_neg (show ¬ (false = true) by decide)] at H
    replace H := Option.bind_eq_some_iff.mp H
    obtain ⟨⟨t493, t494⟩, A1040, H⟩ := H
    have A104 := Aside0.mk A1040
    clear A1040
    by_cases c105 : t494 = true
    ·subst c105
     rw [if_pos rfl] at H
     replace H := Option.bind_eq_some_iff.mp H
     obtain ⟨t495, A1060, H⟩ := H
     have A106 := Aside0.mk A1060
     clear A1060
     replace H := Option.bind_eq_some_iff.mp H
     obtain ⟨t496, A1070, H⟩ := H
     have A107 := Aside0.mk A1070
     clear A1070
     replace H := Option.bind_eq_some_iff.mp H
     obtain ⟨t497, A1080, H⟩ := H
     have A108 := Aside0.mk A1080
     clear A1080
     replace H := Option.bind_eq_some_iff.mp H
     obtain ⟨t498, A1090, H⟩ := H
     have A109 := Aside0.mk A1090
     clear A1090
     replace H := Option.bind_eq_some_iff.mp H
     obtain ⟨t499, A1100, H⟩ := H
     have A110 := Aside0.mk A1100
     clear A1100
     simp only [Option.some.injEq, Prod.mk.injEq] at H
     obtain ⟨rfl, rfl⟩ := H
     obtain ⟨hnb111, hnc111⟩ := nB NB485_486
     obtain ⟨hnb112, hnc112⟩ := nB NB485_487
     obtain ⟨hnb113, hnc113⟩ := nB NB485_488
     obtain ⟨hnb114, hnc114⟩ := nB NB485_489
     obtain ⟨hcz115_0, hcz115_1, hcz115_2, hfz115_0, hfz115_1, hfz115_2⟩ := bK3 (w := wc) BK485
     obtain ⟨hnb116, hnc116⟩ := nB NB486_487
     obtain ⟨hnb117, hnc117⟩ := nB NB486_488
     obtain ⟨hnb118, hnc118⟩ := nB NB486_489
     obtain ⟨hcz119_0, hcz119_1, hcz119_2, hfz119_0, hfz119_1, hfz119_2⟩ := bK3 (w := wc) BK486
     try go_wp2_with (first | (refine gC (some 41) Tryz.func89 #[.agg #[.int .i64 a0_0, .int .i64 a0_1, .bool a0_2], .agg #[.int .i64 a1_0, .int .i64 a1_1, .bool a1_2]] ?_; (with_reducible refine (impl_slopeOf.calls kj3 a0_0 a0_1 a0_2 a1_0 a1_1 a1_2 t493 true _ A104.out).mono ?_); rintro e w120 ⟨rfl, hb⟩; refine ⟨_, rfl, ?_⟩; replace BK485 := bB BK485 hb; replace BK486 := bB BK486 hb; replace BK487 := bB BK487 hb; replace BK488 := bB BK488 hb; replace BK489 := bB BK489 hb; replace HB := bS HB hb; (try clear hb)))
     replace BK485 := Aside0.mk (blk_drew BK485.out)
     replace BK486 := Aside0.mk (blk_drew BK486.out)
     replace BK487 := Aside0.mk (blk_drew BK487.out)
     replace BK488 := Aside0.mk (blk_drew BK488.out)
     replace BK489 := Aside0.mk (blk_drew BK489.out)
     replace HB := Aside0.mk (below_drew1 HB.out)
     refine start_ (n := 7) (S := fun w' => SP3 w' gb487 (.int .i64 a2_0) (.int .i64 a2_1) (.bool a2_2) (SQ3 w' gb485 (.int .i64 a0_0) (.int .i64 a0_1) (.bool a0_2))) (ds := []) #[false, false, false, false, false, false, false] (by kernel_rfl) rfl rfl (bS3 BK487 (bT3 BK485)) (fun hHeld => ?_)
     generalize w120.drew = w121 at BK485 BK486 BK487 BK488 BK489 HB hHeld ⊢
     refine pJ 0 (some 47) ?_
     refine pJ 3 (some 50) ?_
     refine tJ 1 (some 48) hHeld ?_
     refine tJ 4 (some 51) hHeld ?_
     refine one_ (i := 2) (N := some 49) #[true, true, true, true, true, false, false] rfl rfl (by kernel_rfl) (by decide) (fun K hK => ?_)
     refine gO Tryz.func90 #[.int .i64 0, .int .i64 a2_0] ?_
     with_reducible refine (impl_FpSub.calls 0 a2_0 t495 _ A106.out).mono ?_
     rintro e w' ⟨rfl, ⟨nd, rfl⟩⟩
     refine ⟨_, rfl, ?_⟩
     refine hK.out _ _ (bS3 BK487 (bT3 BK485)) (fun hHeld => ?_)
     clear hK K
     refine nO (some 49) ?_
     refine one_ (i := 5) (N := some 52) #[true, true, true, true, true, true, false] rfl rfl (by kernel_rfl) (by decide) (fun K hK => ?_)
     refine gO Tryz.func90 #[.int .i64 t495, .int .i64 a0_0] ?_
     with_reducible refine (impl_FpSub.calls t495 a0_0 t496 _ A107.out).mono ?_
     rintro e w' ⟨rfl, ⟨nd, rfl⟩⟩
     refine ⟨_, rfl, ?_⟩
     refine hK.out _ _ (bS3 BK487 (bT3 BK485)) (fun hHeld => ?_)
     clear hK K
     refine nO (some 52) ?_
     refine pJ 6 (some 10) ?_
     refine done_ (by kernel_rfl) ?_
     try go_wp2
     (try simp only [World.drewN_drewN]); (try (rw [drewN_self w121]; generalize hq_ : World.drewN w121 _ = w121; replace BK485 : Aside0 (w121.heap[gb485]? = some (.cells #[.int .i64 a0_0, .int .i64 a0_1, .bool a0_2] 28 (0, 0))) := ⟨by rw [← hq_]; exact (bP BK485)⟩; replace BK486 : Aside0 (w121.heap[gb486]? = some (.cells #[.int .i64 a1_0, .int .i64 a1_1, .bool a1_2] 28 (0, 0))) := ⟨by rw [← hq_]; exact (bP BK486)⟩; replace BK487 : Aside0 (w121.heap[gb487]? = some (.cells #[.int .i64 a2_0, .int .i64 a2_1, .bool a2_2] 28 (0, 0))) := ⟨by rw [← hq_]; exact (bP BK487)⟩; replace BK488 : Aside0 (w121.heap[gb488]? = some (.cells #[.int .i64 0, .int .i64 0] 75 (0, 0))) := ⟨by rw [← hq_]; exact (bP BK488)⟩; replace BK489 : Aside0 (w121.heap[gb489]? = some (.cells #[.int .i64 1, .int .i64 0] 75 (0, 0))) := ⟨by rw [← hq_]; exact (bP BK489)⟩; replace HB : Aside0 (Below w.heap.size w w121) := ⟨by rw [← hq_]; exact (bZ HB)⟩; clear hq_))
     replace BK485 := Aside0.mk (blk_drew BK485.out)
     replace BK486 := Aside0.mk (blk_drew BK486.out)
     replace BK487 := Aside0.mk (blk_drew BK487.out)
     replace BK488 := Aside0.mk (blk_drew BK488.out)
     replace BK489 := Aside0.mk (blk_drew BK489.out)
     replace HB := Aside0.mk (below_drew1 HB.out)
     refine start_ (n := 11) (S := fun w' => SP3 w' gb485 (.int .i64 a0_0) (.int .i64 a0_1) (.bool a0_2) (SQ3 w' gb487 (.int .i64 a2_0) (.int .i64 a2_1) (.bool a2_2))) (ds := []) #[false, false, false, false, false, false, false, false, false, false, false] (by kernel_rfl) rfl rfl (bS3 BK485 (bT3 BK487)) (fun hHeld => ?_); refine with_tabW impl_PairLine.tab8 impl_PairLine.bits8 (fun HT_ HW_ => ?_)
     generalize w121.drew = w122 at BK485 BK486 BK487 BK488 BK489 HB hHeld ⊢
     refine pI 0 (some 53) HT_.out ?_
     refine pI 3 (some 56) HT_.out ?_
     refine pI 4 (some 57) HT_.out ?_
     refine pI 7 (some 60) HT_.out ?_
     refine tI6 1 (some 54) HT_.out HW_.out hHeld ?_
     refine tI6 8 (some 61) HT_.out HW_.out hHeld ?_
     refine oI 2 (some 55) HT_.out (fun K hK => ?_)
     refine gO Tryz.func90 #[.int .i64 0, .int .i64 a0_1] ?_
     with_reducible refine (impl_FpSub.calls 0 a0_1 t497 _ A108.out).mono ?_
     rintro e w' ⟨rfl, ⟨nd, rfl⟩⟩
     refine ⟨_, rfl, ?_⟩
     refine hK.out _ _ (bS3 BK485 (bT3 BK487)) (fun hHeld => ?_)
     clear hK K
     refine nO (some 55) ?_
     refine oI 5 (some 58) HT_.out (fun K hK => ?_)
     refine gO Tryz.func88 #[.int .i64 t493, .int .i64 t496] ?_
     with_reducible refine (impl_FpMul.calls t493 t496 t498 _ A109.out).mono ?_
     rintro e w' ⟨rfl, ⟨nd, rfl⟩⟩
     refine ⟨_, rfl, ?_⟩
     refine hK.out _ _ (bS3 BK485 (bT3 BK487)) (fun hHeld => ?_)
     clear hK K
     refine nO (some 58) ?_
     refine oI 6 (some 59) HT_.out (fun K hK => ?_)
     refine gO Tryz.func90 #[.int .i64 t497, .int .i64 t498] ?_
     with_reducible refine (impl_FpSub.calls t497 t498 t499 _ A110.out).mono ?_
     rintro e w' ⟨rfl, ⟨nd, rfl⟩⟩
     refine ⟨_, rfl, ?_⟩
     refine hK.out _ _ (bS3 BK485 (bT3 BK487)) (fun hHeld => ?_)
     clear hK K
     refine nO (some 59) ?_
     refine pI 9 (some 62) HT_.out ?_
     refine oI 10 (none) HT_.out (fun K hK => ?_)
     have hs123 : w122.cell? ⟨gb488, 0, none⟩ = some (.int .i64 0) := bc BK488 0
     have hfs123 := blk_frozen BK488.out 0
     have hns123_0 := NB485_488.out
     have hns123_1 := NB486_488.out
     have hns123_2 := NB487_488.out
     have hns123_4 := NB489_488.out
     have hms123_0 := NB488_485.out
     have hms123_1 := NB488_486.out
     have hms123_2 := NB488_487.out
     have hms123_4 := NB488_489.out
     have hs124 : w122.cell? ⟨gb488, 1, none⟩ = some (.int .i64 0) := bc BK488 1
     have hfs124 := blk_frozen BK488.out 1
     have hns124_0 := NB485_488.out
     have hns124_1 := NB486_488.out
     have hns124_2 := NB487_488.out
     have hns124_4 := NB489_488.out
     have hms124_0 := NB488_485.out
     have hms124_1 := NB488_486.out
     have hms124_2 := NB488_487.out
     have hms124_4 := NB488_489.out
     refine skip_ (w1 := ?_) (by rfl) rfl ?_ ?_
     rotate_left
     ·go_simp
      rfl
     refine hK.out _ _ ⟨((cell_far (p := ⟨gb488, _, none⟩) NB485_488.out _).trans (((cell_far (p := ⟨gb488, _, none⟩) NB485_488.out _).trans (hHeld.1)))), ((cell_far (p := ⟨gb488, _, none⟩) NB485_488.out _).trans (((cell_far (p := ⟨gb488, _, none⟩) NB485_488.out _).trans (hHeld.2.1)))), ((cell_far (p := ⟨gb488, _, none⟩) NB485_488.out _).trans (((cell_far (p := ⟨gb488, _, none⟩) NB485_488.out _).trans (hHeld.2.2.1)))), ((cell_far (p := ⟨gb488, _, none⟩) NB487_488.out _).trans (((cell_far (p := ⟨gb488, _, none⟩) NB487_488.out _).trans (hHeld.2.2.2.1)))), ((cell_far (p := ⟨gb488, _, none⟩) NB487_488.out _).trans (((cell_far (p := ⟨gb488, _, none⟩) NB487_488.out _).trans (hHeld.2.2.2.2.1)))), ((cell_far (p := ⟨gb488, _, none⟩) NB487_488.out _).trans (((cell_far (p := ⟨gb488, _, none⟩) NB487_488.out _).trans (hHeld.2.2.2.2.2))))⟩ (fun hHeld => ?_)
     clear hK K
     refine done_ (done_of HT_.out (by kernel_rfl)) ?_
     try go_wp2
     refine rC gb488 75 #[.int .i64 t499, .int .i64 a2_1] (bU BK488) Tryz.underlying75 ?_
     exact ⟨rR, bZ HB⟩
    ·replace c105 := Bool.eq_false_iff.mpr c105
     subst c105
     rw [if_neg (show ¬ (false = true) by decide)] at H
     simp only [Option.some.injEq, Prod.mk.injEq] at H
     obtain ⟨rfl, rfl⟩ := H
     obtain ⟨hnb125, hnc125⟩ := nB NB485_486
     obtain ⟨hnb126, hnc126⟩ := nB NB485_487
     obtain ⟨hnb127, hnc127⟩ := nB NB485_488
     obtain ⟨hnb128, hnc128⟩ := nB NB485_489
     obtain ⟨hcz129_0, hcz129_1, hcz129_2, hfz129_0, hfz129_1, hfz129_2⟩ := bK3 (w := wc) BK485
     obtain ⟨hnb130, hnc130⟩ := nB NB486_487
     obtain ⟨hnb131, hnc131⟩ := nB NB486_488
     obtain ⟨hnb132, hnc132⟩ := nB NB486_489
     obtain ⟨hcz133_0, hcz133_1, hcz133_2, hfz133_0, hfz133_1, hfz133_2⟩ := bK3 (w := wc) BK486
     go_wp2_with (first | (refine gC (some 41) Tryz.func89 #[.agg #[.int .i64 a0_0, .int .i64 a0_1, .bool a0_2], .agg #[.int .i64 a1_0, .int .i64 a1_1, .bool a1_2]] ?_; (with_reducible refine (impl_slopeOf.calls kj3 a0_0 a0_1 a0_2 a1_0 a1_1 a1_2 t493 false _ A104.out).mono ?_); rintro e w134 ⟨rfl, hb⟩; refine ⟨_, rfl, ?_⟩; replace BK485 := bB BK485 hb; replace BK486 := bB BK486 hb; replace BK487 := bB BK487 hb; replace BK488 := bB BK488 hb; replace BK489 := bB BK489 hb; replace HB := bS HB hb; (try clear hb); obtain ⟨hnb135, hnc135⟩ := nB NB489_487; obtain ⟨hnb136, hnc136⟩ := nB NB489_488; obtain ⟨hcz137_0, hcz137_1, hfz137_0, hfz137_1⟩ := bK2 (w := w134) BK489; obtain ⟨hnb138, hnc138⟩ := nB NB488_487; obtain ⟨hcz139_0, hcz139_1, hfz139_0, hfz139_1⟩ := bK2 (w := w134) BK488))
     refine rC gb488 75 #[.int .i64 1, .int .i64 0] (bU BK488) Tryz.underlying75 ?_
     exact ⟨rR, bZ HB⟩
def impl_Miller.l0 : Nat → Int → Int → Int → Bool → Int → Int → Bool → Int → Int → Int → Int → Bool → Option (Int × Int)
 | 0, _, _, _, _, _, _, _, _, _, _, _, _ => none
 | k + 1, x7, x501000, x501001, x501002, x502000, x502001, x502002, x504000, x504001, x505000, x505001, x505002 => if x7 ≥ 0 then ((impl_TwoMul.f x504000 x504001 x504000 x504001).bind fun bt506 => ((impl_PairLine.f k x505000 x505001 x505002 x505000 x505001 x505002 x502000 x502001 x502002).bind fun bt508 => ((impl_TwoMul.f bt506.1 bt506.2 bt508.1 bt508.2).bind fun bt510 => ((impl_PointAdd.f k x505000 x505001 x505002 x505000 x505001 x505002).bind fun bt512 => (if 0 ≤ (IntKind.u64.wrap (x7)) then (if (Go.bits .and .i64 (shr .i64 1009 (IntKind.u64.wrap (x7))) 1) = 1 then ((impl_PairLine.f k bt512.1 bt512.2.1 bt512.2.2 x501000 x501001 x501002 x502000 x502001 x502002).bind fun bt515 => ((impl_TwoMul.f bt510.1 bt510.2 bt515.1 bt515.2).bind fun bt517 => ((impl_PointAdd.f k bt512.1 bt512.2.1 bt512.2.2 x501000 x501001 x501002).bind fun bt519 => (impl_Miller.l0 k (wrap64 (x7 - 1)) x501000 x501001 x501002 x502000 x502001 x502002 bt517.1 bt517.2 bt519.1 bt519.2.1 bt519.2.2)))) else (impl_Miller.l0 k (wrap64 (x7 - 1)) x501000 x501001 x501002 x502000 x502001 x502002 bt510.1 bt510.2 bt512.1 bt512.2.1 bt512.2.2)) else (none)))))) else (some (x504000, x504001))
def impl_Miller.f (k : Nat) (a0_0 : Int) (a0_1 : Int) (a0_2 : Bool) (a1_0 : Int) (a1_1 : Int) (a1_2 : Bool) : Option (Int × Int) := (bits_Len.f k 1009).bind fun t505 => (impl_Miller.l0 k (wrap64 (t505 - 2)) a0_0 a0_1 a0_2 a1_0 a1_1 a1_2 1 0 a0_0 a0_1 a0_2)
def impl_Miller.T6 : Bool × List (List Nat × List Nat) := (true, [([], []), ([], []), ([0, 1], [0, 1]), ([], []), ([], []), ([], []), ([3, 4, 5, 2], [3, 4, 5]), ([2, 6, 6], [2, 6]), ([7, 7, 0, 1, 2, 3, 4, 5, 6, 7], [7])])
def impl_Miller.B6 : List Nat := [0, 0, 3, 0, 0, 0, 63, 127, 255]
theorem impl_Miller.tab6 : rtab .any (opsOf Tryz.f102 6) = impl_Miller.T6 := by kernel_rfl
theorem impl_Miller.bits6 : waitsOk impl_Miller.T6.2 impl_Miller.B6 = true := by kernel_rfl
set_option maxHeartbeats 8000000 in
set_option maxRecDepth 100000 in
theorem impl_Miller.calls (k : Nat) (a0_0 : Int) (a0_1 : Int) (a0_2 : Bool) (a1_0 : Int) (a1_1 : Int) (a1_2 : Bool) (r1 : Int) (r2 : Int) (w : World) (h : impl_Miller.f k a0_0 a0_1 a0_2 a1_0 a1_1 a1_2 = some (r1, r2)) :
  Calls Tryz.prog 102 #[.agg #[.int .i64 a0_0, .int .i64 a0_1, .bool a0_2], .agg #[.int .i64 a1_0, .int .i64 a1_1, .bool a1_2]] w fun e w' => e = .returned (.agg #[.int .i64 r1, .int .i64 r2]) ∧ Below w.heap.size w w' := by
 have hu28 := Tryz.underlying28
 have hu75 := Tryz.underlying75
 have HB := Aside0.mk (Below.refl w.heap.size w)
 have H : ((bits_Len.f k 1009).bind fun t505 => (impl_Miller.l0 k (wrap64 (t505 - 2)) a0_0 a0_1 a0_2 a1_0 a1_1 a1_2 1 0 a0_0 a0_1 a0_2)) = some (r1, r2) := h
 clear h
 replace H := Option.bind_eq_some_iff.mp H
 obtain ⟨t505, A30, H⟩ := H
 have A3 := Aside0.mk A30
 clear A30
 have H' := Aside0.mk H
 clear H
 go_enter Tryz.func102, Tryz.ntmps102
 go_wp2_with (first | (refine gB 2 #[.int .i64 a0_0, .int .i64 a0_1, .bool a0_2] 28 ?_; intro gb500 hg w4 BK500 hb; have GW500 := bG HB hg; replace HB := bS HB hb; clear hb hg) | (refine gB 3 #[.int .i64 a1_0, .int .i64 a1_1, .bool a1_2] 28 ?_; intro gb501 hg w5 BK501 hb; have GW501 := bG HB hg; replace HB := bS HB hb; obtain ⟨NB500_501, NB501_500⟩ := bN BK500 hg; replace BK500 := bB BK500 hb; clear hb hg) | (refine gB 4 #[.int .i64 0, .int .i64 0] 75 ?_; intro gb502 hg w6 BK502 hb; have GW502 := bG HB hg; replace HB := bS HB hb; obtain ⟨NB500_502, NB502_500⟩ := bN BK500 hg; replace BK500 := bB BK500 hb; obtain ⟨NB501_502, NB502_501⟩ := bN BK501 hg; replace BK501 := bB BK501 hb; clear hb hg) | (refine gB 5 #[.int .i64 0, .int .i64 0] 75 ?_; intro gb503 hg w7 BK503 hb; have GW503 := bG HB hg; replace HB := bS HB hb; obtain ⟨NB500_503, NB503_500⟩ := bN BK500 hg; replace BK500 := bB BK500 hb; obtain ⟨NB501_503, NB503_501⟩ := bN BK501 hg; replace BK501 := bB BK501 hb; obtain ⟨NB502_503, NB503_502⟩ := bN BK502 hg; replace BK502 := bB BK502 hb; clear hb hg; obtain ⟨hnb8, hnc8⟩ := nB NB503_500; obtain ⟨hnb9, hnc9⟩ := nB NB503_501; obtain ⟨hnb10, hnc10⟩ := nB NB503_502; obtain ⟨hcz11_0, hcz11_1, hfz11_0, hfz11_1⟩ := bK2 (w := w7) BK503; obtain ⟨hnb12, hnc12⟩ := nB NB500_501; obtain ⟨hnb13, hnc13⟩ := nB NB500_502; obtain ⟨hcz14_0, hcz14_1, hcz14_2, hfz14_0, hfz14_1, hfz14_2⟩ := bK3 (w := w7) BK500) | (refine gB 6 #[.int .i64 0, .int .i64 0, .bool false] 28 ?_; intro gb504 hg w15 BK504 hb; have GW504 := bG HB hg; replace HB := bS HB hb; obtain ⟨NB500_504, NB504_500⟩ := bN BK500 hg; replace BK500 := bB BK500 hb; obtain ⟨NB501_504, NB504_501⟩ := bN BK501 hg; replace BK501 := bB BK501 hb; obtain ⟨NB502_504, NB504_502⟩ := bN BK502 hg; replace BK502 := bB BK502 hb; have NB503_504 := Aside0.mk ((by rw [hg]; exact Nat.ne_of_lt (blk_lt (g := gb503) (o := .cells #[.int .i64 1, .int .i64 0] 75 (0, 0)) (bU BK503)) : gb503 ≠ gb504)); have NB504_503 := Aside0.mk ((by rw [hg]; exact Nat.ne_of_gt (blk_lt (g := gb503) (o := .cells #[.int .i64 1, .int .i64 0] 75 (0, 0)) (bU BK503)) : gb504 ≠ gb503)); replace BK503 := bV 75 #[.int .i64 1, .int .i64 0] BK503 hb; clear hb hg; obtain ⟨hnb16, hnc16⟩ := nB NB504_500; obtain ⟨hnb17, hnc17⟩ := nB NB504_501; obtain ⟨hnb18, hnc18⟩ := nB NB504_502; obtain ⟨hnb19, hnc19⟩ := nB NB504_503; obtain ⟨hcz20_0, hcz20_1, hcz20_2, hfz20_0, hfz20_1, hfz20_2⟩ := bK3 (w := w15) BK504) | (refine gC (some 10) Tryz.func135 #[.int .u64 1009] ?_; (with_reducible refine (bits_Len.calls k 1009 t505 _ A3.out).mono ?_); rintro e w' ⟨rfl, ⟨nd, rfl⟩⟩; refine ⟨_, rfl, ?_⟩))
 go_loopg [7] k (fun kq v7 w' => ∃ (x7_1 : Int) (x504000_1 : Int) (x504001_1 : Int) (x505000_1 : Int) (x505001_1 : Int) (x505002_1 : Bool), v7 = .int .i64 x7_1 ∧ Aside0 (impl_Miller.l0 kq x7_1 a0_0 a0_1 a0_2 a1_0 a1_1 a1_2 x504000_1 x504001_1 x505000_1 x505001_1 x505002_1 = some (r1, r2)) ∧ Aside0 (kq ≤ k) ∧ Aside0 (w'.heap[gb500]? = some (.cells #[.int .i64 a0_0, .int .i64 a0_1, .bool a0_2] 28 (0, 0))) ∧ Aside0 (w'.heap[gb501]? = some (.cells #[.int .i64 a1_0, .int .i64 a1_1, .bool a1_2] 28 (0, 0))) ∧ Aside0 (w'.heap[gb502]? = some (.cells #[.int .i64 0, .int .i64 0] 75 (0, 0))) ∧ Aside0 (w'.heap[gb503]? = some (.cells #[.int .i64 x504000_1, .int .i64 x504001_1] 75 (0, 0))) ∧ Aside0 (w'.heap[gb504]? = some (.cells #[.int .i64 x505000_1, .int .i64 x505001_1, .bool x505002_1] 28 (0, 0))) ∧ Aside0 (Below w.heap.size w w'))
 case atStart => exact ⟨(wrap64 (t505 - 2)), (1), (0), (a0_0), (a0_1), (a0_2), rS, H', ⟨Nat.le_refl _⟩, ⟨bP BK500⟩, ⟨bP BK501⟩, ⟨bP BK502⟩, ⟨bP BK503⟩, ⟨bU BK504⟩, ⟨bZ HB⟩⟩
 case round =>
  clear H'
  try clear c1
  try clear p2
  try clear p6
  try clear c8
  try clear c9
  try clear c10
  try clear c12
  try clear c13
  try clear c16
  try clear c17
  try clear c18
  try clear c19
  try clear hcz11_0
  try clear hcz11_1
  try clear hcz14_0
  try clear hcz14_1
  try clear hcz14_2
  try clear hcz20_0
  try clear hcz20_1
  try clear hcz20_2
  try clear hfz11_0
  try clear hfz11_1
  try clear hfz14_0
  try clear hfz14_1
  try clear hfz14_2
  try clear hfz20_0
  try clear hfz20_1
  try clear hfz20_2
  obtain ⟨x7_1, x504000_1, x504001_1, x505000_1, x505001_1, x505002_1, rfl, HA, HK1, BK500, BK501, BK502, BK503, BK504, HB⟩ := hrel
  cases gk with
  | zero => exact absurd HA.out (by simp [impl_Miller.l0])
  | succ k1 =>
   have H := HA.out
   clear HA
   simp only [impl_Miller.l0] at H
   by_cases c21 : x7_1 ≥ 0
   ·rw [if_pos c21] at H
    have c21b0 := decide_eq_true c21
    clear c21
    replace H := Option.bind_eq_some_iff.mp H
    obtain ⟨⟨t506, t507⟩, A220, H⟩ := H
    have A22 := Aside0.mk A220
    clear A220
    replace H := Option.bind_eq_some_iff.mp H
    obtain ⟨⟨t508, t509⟩, A230, H⟩ := H
    have A23 := Aside0.mk A230
    clear A230
    replace H := Option.bind_eq_some_iff.mp H
    obtain ⟨⟨t510, t511⟩, A240, H⟩ := H
    have A24 := Aside0.mk A240
    clear A240
    replace H := Option.bind_eq_some_iff.mp H
    obtain ⟨⟨t512, t513, t514⟩, A250, H⟩ := H
    have A25 := Aside0.mk A250
    clear A250
    obtain ⟨ji26, hji26⟩ : ∃ j_ : Int, (IntKind.u64.wrap (x7_1)) = j_ := ⟨_, rfl⟩
    replace H : (if 0 ≤ (ji26) then (if (Go.bits .and .i64 (shr .i64 1009 (ji26)) 1) = 1 then ((impl_PairLine.f k1 t512 t513 t514 a0_0 a0_1 a0_2 a1_0 a1_1 a1_2).bind fun bt515 => ((impl_TwoMul.f t510 t511 bt515.1 bt515.2).bind fun bt517 => ((impl_PointAdd.f k1 t512 t513 t514 a0_0 a0_1 a0_2).bind fun bt519 => (impl_Miller.l0 k1 (wrap64 (x7_1 - 1)) a0_0 a0_1 a0_2 a1_0 a1_1 a1_2 bt517.1 bt517.2 bt519.1 bt519.2.1 bt519.2.2)))) else (impl_Miller.l0 k1 (wrap64 (x7_1 - 1)) a0_0 a0_1 a0_2 a1_0 a1_1 a1_2 t510 t511 t512 t513 t514)) else (none)) = some (r1, r2) := by first | (rw [hji26] at H; exact H) | (simp only [hji26] at H ⊢; exact H)
    (try rw [hji26] at A22)
    (try rw [hji26] at A23)
    (try rw [hji26] at A24)
    (try rw [hji26] at A25)
    by_cases c27 : 0 ≤ (ji26)
    ·rw [if_pos c27] at H
     have c27b0 := eq_true c27
     have c27b1 := decide_eq_true c27
     clear c27
     obtain ⟨ji28, hji28⟩ : ∃ j_ : Int, (shr .i64 1009 (ji26)) = j_ := ⟨_, rfl⟩
     replace H : (if (Go.bits .and .i64 (ji28) 1) = 1 then ((impl_PairLine.f k1 t512 t513 t514 a0_0 a0_1 a0_2 a1_0 a1_1 a1_2).bind fun bt515 => ((impl_TwoMul.f t510 t511 bt515.1 bt515.2).bind fun bt517 => ((impl_PointAdd.f k1 t512 t513 t514 a0_0 a0_1 a0_2).bind fun bt519 => (impl_Miller.l0 k1 (wrap64 (x7_1 - 1)) a0_0 a0_1 a0_2 a1_0 a1_1 a1_2 bt517.1 bt517.2 bt519.1 bt519.2.1 bt519.2.2)))) else (impl_Miller.l0 k1 (wrap64 (x7_1 - 1)) a0_0 a0_1 a0_2 a1_0 a1_1 a1_2 t510 t511 t512 t513 t514)) = some (r1, r2) := by first | (rw [hji28] at H; exact H) | (simp only [hji28] at H ⊢; exact H)
     (try rw [hji28] at A22)
     (try rw [hji28] at A23)
     (try rw [hji28] at A24)
     (try rw [hji28] at A25)
     have hji28_ : (1009 / 2 ^ min (ji26).toNat 64) = ji28 := hji28
     have hji28z : (ji26) ≤ 64 → (1009 / 2 ^ (ji26).toNat) = ji28 := shr_small hji28
     have hji28t : ∀ m_ : Int, Int.tmod ji28 m_ = ji28 % m_ := fun m_ => Int.tmod_eq_emod_of_nonneg (by rw [← hji28_]; exact Int.ediv_nonneg (by decide) (Int.le_of_lt (Int.pow_pos (by decide))))
     by_cases c29 : (Go.bits .and .i64 (ji28) 1) = 1
     ·rw [if_pos c29] at H
      have c29b0 : ((Go.bits .and .i64 (ji28) 1) == 1) = true := beq_iff_eq.mpr c29
      have c29b1 : ((Go.bits .and .i64 (ji28) 1) != 1) = false := bne_eq_false_iff_eq.mpr c29
      clear c29
      replace H := Option.bind_eq_some_iff.mp H
      obtain ⟨⟨t515, t516⟩, A300, H⟩ := H
      have A30 := Aside0.mk A300
      clear A300
      replace H := Option.bind_eq_some_iff.mp H
      obtain ⟨⟨t517, t518⟩, A310, H⟩ := H
      have A31 := Aside0.mk A310
      clear A310
      replace H := Option.bind_eq_some_iff.mp H
      obtain ⟨⟨t519, t520, t521⟩, A320, H⟩ := H
      have A32 := Aside0.mk A320
      clear A320
      have H' := Aside0.mk H
      clear H
      try go_wp2
      replace BK500 := Aside0.mk (blk_drew BK500.out)
      replace BK501 := Aside0.mk (blk_drew BK501.out)
      replace BK502 := Aside0.mk (blk_drew BK502.out)
      replace BK503 := Aside0.mk (blk_drew BK503.out)
      replace BK504 := Aside0.mk (blk_drew BK504.out)
      replace HB := Aside0.mk (below_drew1 HB.out)
      refine start_ (n := 9) (S := fun w' => SP2 w' gb503 (.int .i64 x504000_1) (.int .i64 x504001_1) (SP3 w' gb504 (.int .i64 x505000_1) (.int .i64 x505001_1) (.bool x505002_1) (SQ3 w' gb501 (.int .i64 a1_0) (.int .i64 a1_1) (.bool a1_2)))) (ds := [8]) #[false, false, false, false, false, false, false, false, false] (by kernel_rfl) rfl rfl (bS2 BK503 (bS3 BK504 (bT3 BK501))) (fun hHeld => ?_); refine with_tabW impl_Miller.tab6 impl_Miller.bits6 (fun HT_ HW_ => ?_)
      generalize wr.drew = w33 at BK500 BK501 BK502 BK503 BK504 HB hHeld ⊢
      refine tI8 0 (some 16) HT_.out HW_.out hHeld ?_
      refine tI8 1 (some 17) HT_.out HW_.out hHeld ?_
      refine tI8 3 (some 19) HT_.out HW_.out hHeld ?_
      refine tI8 4 (some 20) HT_.out HW_.out hHeld ?_
      refine tI8 5 (some 21) HT_.out HW_.out hHeld ?_
      refine oI 2 (some 18) HT_.out (fun K hK => ?_)
      refine gO Tryz.func104 #[.agg #[.int .i64 x504000_1, .int .i64 x504001_1], .agg #[.int .i64 x504000_1, .int .i64 x504001_1]] ?_
      with_reducible refine (impl_TwoMul.calls x504000_1 x504001_1 x504000_1 x504001_1 t506 t507 _ A22.out).mono ?_
      rintro e w34 ⟨rfl, hb⟩
      refine ⟨_, rfl, ?_⟩
      replace BK500 := bB BK500 hb
      replace BK501 := bB BK501 hb
      replace BK502 := bB BK502 hb
      replace BK503 := bB BK503 hb
      replace BK504 := bB BK504 hb
      replace HB := bS HB hb
      (try clear hb)
      refine hK.out _ _ (bS2 BK503 (bS3 BK504 (bT3 BK501))) (fun hHeld => ?_)
      clear hK K
      refine nO (some 18) ?_
      refine oI 6 (some 22) HT_.out (fun K hK => ?_)
      refine gO Tryz.func136 #[.agg #[.int .i64 x505000_1, .int .i64 x505001_1, .bool x505002_1], .agg #[.int .i64 x505000_1, .int .i64 x505001_1, .bool x505002_1], .agg #[.int .i64 a1_0, .int .i64 a1_1, .bool a1_2]] ?_
      with_reducible refine (impl_PairLine.calls k1 x505000_1 x505001_1 x505002_1 x505000_1 x505001_1 x505002_1 a1_0 a1_1 a1_2 t508 t509 _ A23.out).mono ?_
      rintro e w35 ⟨rfl, hb⟩
      refine ⟨_, rfl, ?_⟩
      replace BK500 := bB BK500 hb
      replace BK501 := bB BK501 hb
      replace BK502 := bB BK502 hb
      replace BK503 := bB BK503 hb
      replace BK504 := bB BK504 hb
      replace HB := bS HB hb
      (try clear hb)
      refine hK.out _ _ (bS2 BK503 (bS3 BK504 (bT3 BK501))) (fun hHeld => ?_)
      clear hK K
      refine nO (some 22) ?_
      refine oI 7 (some 23) HT_.out (fun K hK => ?_)
      refine gO Tryz.func104 #[.agg #[.int .i64 t506, .int .i64 t507], .agg #[.int .i64 t508, .int .i64 t509]] ?_
      with_reducible refine (impl_TwoMul.calls t506 t507 t508 t509 t510 t511 _ A24.out).mono ?_
      rintro e w36 ⟨rfl, hb⟩
      refine ⟨_, rfl, ?_⟩
      replace BK500 := bB BK500 hb
      replace BK501 := bB BK501 hb
      replace BK502 := bB BK502 hb
      replace BK503 := bB BK503 hb
      replace BK504 := bB BK504 hb
      replace HB := bS HB hb
      (try clear hb)
      refine hK.out _ _ (bS2 BK503 (bS3 BK504 (bT3 BK501))) (fun hHeld => ?_)
      clear hK K
      refine nO (some 23) ?_
      refine last_ (i := 8) (N := none) #[true, true, true, true, true, true, true, true, true] rfl rfl (one_of HT_.out (by kernel_rfl)) (by decide) (fun K hK => ?_)
      have hs37 : w36.cell? ⟨gb503, 0, none⟩ = some (.int .i64 x504000_1) := bc BK503 0
      have hfs37 := blk_frozen BK503.out 0
      have hns37_0 := NB500_503.out
      have hns37_1 := NB501_503.out
      have hns37_2 := NB502_503.out
      have hns37_4 := NB504_503.out
      have hms37_0 := NB503_500.out
      have hms37_1 := NB503_501.out
      have hms37_2 := NB503_502.out
      have hms37_4 := NB503_504.out
      have hs38 : w36.cell? ⟨gb503, 1, none⟩ = some (.int .i64 x504001_1) := bc BK503 1
      have hfs38 := blk_frozen BK503.out 1
      have hns38_0 := NB500_503.out
      have hns38_1 := NB501_503.out
      have hns38_2 := NB502_503.out
      have hns38_4 := NB504_503.out
      have hms38_0 := NB503_500.out
      have hms38_1 := NB503_501.out
      have hms38_2 := NB503_502.out
      have hms38_4 := NB503_504.out
      refine skip_ (w1 := ?_) (by rfl) rfl ?_ ?_
      rotate_left
      ·go_simp
       rfl
      refine hK.out _ _ ?_
      clear hK K
      refine done_ (done_of HT_.out (by kernel_rfl)) ?_
      obtain ⟨hnb39, hnc39⟩ := nB NB504_500
      obtain ⟨hnb40, hnc40⟩ := nB NB504_501
      obtain ⟨hnb41, hnc41⟩ := nB NB504_502
      obtain ⟨hnb42, hnc42⟩ := nB NB504_503
      obtain ⟨hcz43_0, hcz43_1, hcz43_2, hfz43_0, hfz43_1, hfz43_2⟩ := bK3 (w := w36) BK504
      try go_wp2_with (first | (refine gC (some 26) Tryz.func9 #[.agg #[.int .i64 x505000_1, .int .i64 x505001_1, .bool x505002_1], .agg #[.int .i64 x505000_1, .int .i64 x505001_1, .bool x505002_1]] ?_; (with_reducible refine (impl_PointAdd.calls k1 x505000_1 x505001_1 x505002_1 x505000_1 x505001_1 x505002_1 t512 t513 t514 _ A25.out).mono ?_); rintro e w44 ⟨rfl, hb⟩; refine ⟨_, rfl, ?_⟩; replace BK500 := bB BK500 hb; replace BK501 := bB BK501 hb; replace BK502 := bB BK502 hb; replace BK503 := bV 75 #[.int .i64 t510, .int .i64 t511] BK503 hb; replace BK504 := bB BK504 hb; replace HB := bS HB hb; (try clear hb); obtain ⟨hcz45_0, hcz45_1, hcz45_2, hfz45_0, hfz45_1, hfz45_2⟩ := bK3 (w := w44) BK504))
      obtain ⟨w46, hW_⟩ : ∃ W_ : World, W_ = (((w44.setCell ⟨gb504, 0, none⟩ (.int .i64 t512)).setCell ⟨gb504, 1, none⟩ (.int .i64 t513)).setCell ⟨gb504, 2, none⟩ (.bool t514)) := ⟨_, rfl⟩
      replace BK500 := bW hW_ BK500
      replace BK501 := bW hW_ BK501
      replace BK502 := bW hW_ BK502
      replace BK503 := bW hW_ BK503
      replace BK504 := bX hW_ 28 #[.int .i64 t512, .int .i64 t513, .bool t514] BK504
      replace HB := zW hW_ HB
      rw [← hW_]
      clear hW_
      replace BK500 := Aside0.mk (blk_drew BK500.out)
      replace BK501 := Aside0.mk (blk_drew BK501.out)
      replace BK502 := Aside0.mk (blk_drew BK502.out)
      replace BK503 := Aside0.mk (blk_drew BK503.out)
      replace BK504 := Aside0.mk (blk_drew BK504.out)
      replace HB := Aside0.mk (below_drew1 HB.out)
      refine start_ (n := 7) (S := fun w' => SP2 w' gb503 (.int .i64 t510) (.int .i64 t511) (SP3 w' gb504 (.int .i64 t512) (.int .i64 t513) (.bool t514) (SP3 w' gb500 (.int .i64 a0_0) (.int .i64 a0_1) (.bool a0_2) (SQ3 w' gb501 (.int .i64 a1_0) (.int .i64 a1_1) (.bool a1_2))))) (ds := [6]) #[false, false, false, false, false, false, false] (by kernel_rfl) rfl rfl (bS2 BK503 (bS3 BK504 (bS3 BK500 (bT3 BK501)))) (fun hHeld => ?_)
      generalize w46.drew = w47 at BK500 BK501 BK502 BK503 BK504 HB hHeld ⊢
      refine tJ 0 (some 32) hHeld ?_
      refine tJ 1 (some 33) hHeld ?_
      refine tJ 2 (some 34) hHeld ?_
      refine tJ 3 (some 35) hHeld ?_
      refine one_ (i := 4) (N := some 36) #[true, true, true, true, true, false, false] rfl rfl (by kernel_rfl) (by decide) (fun K hK => ?_)
      refine gO Tryz.func136 #[.agg #[.int .i64 t512, .int .i64 t513, .bool t514], .agg #[.int .i64 a0_0, .int .i64 a0_1, .bool a0_2], .agg #[.int .i64 a1_0, .int .i64 a1_1, .bool a1_2]] ?_
      with_reducible refine (impl_PairLine.calls k1 t512 t513 t514 a0_0 a0_1 a0_2 a1_0 a1_1 a1_2 t515 t516 _ A30.out).mono ?_
      rintro e w48 ⟨rfl, hb⟩
      refine ⟨_, rfl, ?_⟩
      replace BK500 := bB BK500 hb
      replace BK501 := bB BK501 hb
      replace BK502 := bB BK502 hb
      replace BK503 := bB BK503 hb
      replace BK504 := bB BK504 hb
      replace HB := bS HB hb
      (try clear hb)
      refine hK.out _ _ (bS2 BK503 (bS3 BK504 (bS3 BK500 (bT3 BK501)))) (fun hHeld => ?_)
      clear hK K
      refine nO (some 36) ?_
      refine one_ (i := 5) (N := some 37) #[true, true, true, true, true, true, false] rfl rfl (by kernel_rfl) (by decide) (fun K hK => ?_)
      refine gO Tryz.func104 #[.agg #[.int .i64 t510, .int .i64 t511], .agg #[.int .i64 t515, .int .i64 t516]] ?_
      with_reducible refine (impl_TwoMul.calls t510 t511 t515 t516 t517 t518 _ A31.out).mono ?_
      rintro e w49 ⟨rfl, hb⟩
      refine ⟨_, rfl, ?_⟩
      replace BK500 := bB BK500 hb
      replace BK501 := bB BK501 hb
      replace BK502 := bB BK502 hb
      replace BK503 := bB BK503 hb
      replace BK504 := bB BK504 hb
      replace HB := bS HB hb
      (try clear hb)
      refine hK.out _ _ (bS2 BK503 (bS3 BK504 (bS3 BK500 (bT3 BK501)))) (fun hHeld => ?_)
      clear hK K
      refine nO (some 37) ?_
      refine last_ (i := 6) (N := none) #[true, true, true, true, true, true, true] rfl rfl (by kernel_rfl) (by decide) (fun K hK => ?_)
      have hs50 : w49.cell? ⟨gb503, 0, none⟩ = some (.int .i64 t510) := bc BK503 0
      have hfs50 := blk_frozen BK503.out 0
      have hns50_0 := NB500_503.out
      have hns50_1 := NB501_503.out
      have hns50_2 := NB502_503.out
      have hns50_4 := NB504_503.out
      have hms50_0 := NB503_500.out
      have hms50_1 := NB503_501.out
      have hms50_2 := NB503_502.out
      have hms50_4 := NB503_504.out
      have hs51 : w49.cell? ⟨gb503, 1, none⟩ = some (.int .i64 t511) := bc BK503 1
      have hfs51 := blk_frozen BK503.out 1
      have hns51_0 := NB500_503.out
      have hns51_1 := NB501_503.out
      have hns51_2 := NB502_503.out
      have hns51_4 := NB504_503.out
      have hms51_0 := NB503_500.out
      have hms51_1 := NB503_501.out
      have hms51_2 := NB503_502.out
      have hms51_4 := NB503_504.out
      refine skip_ (w1 := ?_) (by rfl) rfl ?_ ?_
      rotate_left
      ·go_simp
       rfl
      refine hK.out _ _ ?_
      clear hK K
      refine done_ (by kernel_rfl) ?_
      obtain ⟨hcz52_0, hcz52_1, hcz52_2, hfz52_0, hfz52_1, hfz52_2⟩ := bK3 (w := w49) BK504
      obtain ⟨hnb53, hnc53⟩ := nB NB500_501
      obtain ⟨hnb54, hnc54⟩ := nB NB500_502
      obtain ⟨hnb55, hnc55⟩ := nB NB500_503
      obtain ⟨hcz56_0, hcz56_1, hcz56_2, hfz56_0, hfz56_1, hfz56_2⟩ := bK3 (w := w49) BK500
      try go_wp2_with (first | (refine gC (some 40) Tryz.func9 #[.agg #[.int .i64 t512, .int .i64 t513, .bool t514], .agg #[.int .i64 a0_0, .int .i64 a0_1, .bool a0_2]] ?_; (with_reducible refine (impl_PointAdd.calls k1 t512 t513 t514 a0_0 a0_1 a0_2 t519 t520 t521 _ A32.out).mono ?_); rintro e w57 ⟨rfl, hb⟩; refine ⟨_, rfl, ?_⟩; replace BK500 := bB BK500 hb; replace BK501 := bB BK501 hb; replace BK502 := bB BK502 hb; replace BK503 := bV 75 #[.int .i64 t517, .int .i64 t518] BK503 hb; replace BK504 := bB BK504 hb; replace HB := bS HB hb; (try clear hb); obtain ⟨hcz58_0, hcz58_1, hcz58_2, hfz58_0, hfz58_1, hfz58_2⟩ := bK3 (w := w57) BK504))
      go_roundg k1
      case measure => have := HK1.out; omega
      case rel => exact ⟨(wrap64 (x7_1 - 1)), (t517), (t518), (t519), (t520), (t521), rS, H', ⟨by have := HK1.out; omega⟩, ⟨bP BK500⟩, ⟨bP BK501⟩, ⟨bP BK502⟩, ⟨bP BK503⟩, ⟨bU BK504⟩, ⟨bZ HB⟩⟩
     ·rw [if_neg c29] at H
      have c29b0 : ((Go.bits .and .i64 (ji28) 1) == 1) = false := beq_eq_false_iff_ne.mpr c29
      have c29b1 : ((Go.bits .and .i64 (ji28) 1) != 1) = true := bne_iff_ne.mpr c29
      have H' := Aside0.mk H
      clear H
      try go_wp2
      replace BK500 := Aside0.mk (blk_drew BK500.out)
      replace BK501 := Aside0.mk (blk_drew BK501.out)
      replace BK502 := Aside0.mk (blk_drew BK502.out)
      replace BK503 := Aside0.mk (blk_drew BK503.out)
      replace BK504 := Aside0.mk (blk_drew BK504.out)
      replace HB := Aside0.mk (below_drew1 HB.out)
      refine start_ (n := 9) (S := fun w' => SP2 w' gb503 (.int .i64 x504000_1) (.int .i64 x504001_1) (SP3 w' gb504 (.int .i64 x505000_1) (.int .i64 x505001_1) (.bool x505002_1) (SQ3 w' gb501 (.int .i64 a1_0) (.int .i64 a1_1) (.bool a1_2)))) (ds := [8]) #[false, false, false, false, false, false, false, false, false] (by kernel_rfl) rfl rfl (bS2 BK503 (bS3 BK504 (bT3 BK501))) (fun hHeld => ?_); refine with_tabW impl_Miller.tab6 impl_Miller.bits6 (fun HT_ HW_ => ?_)
      generalize wr.drew = w59 at BK500 BK501 BK502 BK503 BK504 HB hHeld ⊢
      refine tI8 0 (some 16) HT_.out HW_.out hHeld ?_
      refine tI8 1 (some 17) HT_.out HW_.out hHeld ?_
      refine tI8 3 (some 19) HT_.out HW_.out hHeld ?_
      refine tI8 4 (some 20) HT_.out HW_.out hHeld ?_
      refine tI8 5 (some 21) HT_.out HW_.out hHeld ?_
      refine oI 2 (some 18) HT_.out (fun K hK => ?_)
      refine gO Tryz.func104 #[.agg #[.int .i64 x504000_1, .int .i64 x504001_1], .agg #[.int .i64 x504000_1, .int .i64 x504001_1]] ?_
      with_reducible refine (impl_TwoMul.calls x504000_1 x504001_1 x504000_1 x504001_1 t506 t507 _ A22.out).mono ?_
      rintro e w60 ⟨rfl, hb⟩
      refine ⟨_, rfl, ?_⟩
      replace BK500 := bB BK500 hb
      replace BK501 := bB BK501 hb
      replace BK502 := bB BK502 hb
      replace BK503 := bB BK503 hb
      replace BK504 := bB BK504 hb
      replace HB := bS HB hb
      (try clear hb)
      refine hK.out _ _ (bS2 BK503 (bS3 BK504 (bT3 BK501))) (fun hHeld => ?_)
      clear hK K
      refine nO (some 18) ?_
      refine oI 6 (some 22) HT_.out (fun K hK => ?_)
      refine gO Tryz.func136 #[.agg #[.int .i64 x505000_1, .int .i64 x505001_1, .bool x505002_1], .agg #[.int .i64 x505000_1, .int .i64 x505001_1, .bool x505002_1], .agg #[.int .i64 a1_0, .int .i64 a1_1, .bool a1_2]] ?_
      with_reducible refine (impl_PairLine.calls k1 x505000_1 x505001_1 x505002_1 x505000_1 x505001_1 x505002_1 a1_0 a1_1 a1_2 t508 t509 _ A23.out).mono ?_
      rintro e w61 ⟨rfl, hb⟩
      refine ⟨_, rfl, ?_⟩
      replace BK500 := bB BK500 hb
      replace BK501 := bB BK501 hb
      replace BK502 := bB BK502 hb
      replace BK503 := bB BK503 hb
      replace BK504 := bB BK504 hb
      replace HB := bS HB hb
      (try clear hb)
      refine hK.out _ _ (bS2 BK503 (bS3 BK504 (bT3 BK501))) (fun hHeld => ?_)
      clear hK K
      refine nO (some 22) ?_
      refine oI 7 (some 23) HT_.out (fun K hK => ?_)
      refine gO Tryz.func104 #[.agg #[.int .i64 t506, .int .i64 t507], .agg #[.int .i64 t508, .int .i64 t509]] ?_
      with_reducible refine (impl_TwoMul.calls t506 t507 t508 t509 t510 t511 _ A24.out).mono ?_
      rintro e w62 ⟨rfl, hb⟩
      refine ⟨_, rfl, ?_⟩
      replace BK500 := bB BK500 hb
      replace BK501 := bB BK501 hb
      replace BK502 := bB BK502 hb
      replace BK503 := bB BK503 hb
      replace BK504 := bB BK504 hb
      replace HB := bS HB hb
      (try clear hb)
      refine hK.out _ _ (bS2 BK503 (bS3 BK504 (bT3 BK501))) (fun hHeld => ?_)
      clear hK K
      refine nO (some 23) ?_
      refine last_ (i := 8) (N := none) #[true, true, true, true, true, true, true, true, true] rfl rfl (one_of HT_.out (by kernel_rfl)) (by decide) (fun K hK => ?_)
      have hs63 : w62.cell? ⟨gb503, 0, none⟩ = some (.int .i64 x504000_1) := bc BK503 0
      have hfs63 := blk_frozen BK503.out 0
      have hns63_0 := NB500_503.out
      have hns63_1 := NB501_503.out
      have hns63_2 := NB502_503.out
      have hns63_4 := NB504_503.out
      have hms63_0 := NB503_500.out
      have hms63_1 := NB503_501.out
      have hms63_2 := NB503_502.out
      have hms63_4 := NB503_504.out
      have hs64 : w62.cell? ⟨gb503, 1, none⟩ = some (.int .i64 x504001_1) := bc BK503 1
      have hfs64 := blk_frozen BK503.out 1
      have hns64_0 := NB500_503.out
      have hns64_1 := NB501_503.out
      have hns64_2 := NB502_503.out
      have hns64_4 := NB504_503.out
      have hms64_0 := NB503_500.out
      have hms64_1 := NB503_501.out
      have hms64_2 := NB503_502.out
      have hms64_4 := NB503_504.out
      refine skip_ (w1 := ?_) (by rfl) rfl ?_ ?_
      rotate_left
      ·go_simp
       rfl
      refine hK.out _ _ ?_
      clear hK K
      refine done_ (done_of HT_.out (by kernel_rfl)) ?_
      obtain ⟨hnb65, hnc65⟩ := nB NB504_500
      obtain ⟨hnb66, hnc66⟩ := nB NB504_501
      obtain ⟨hnb67, hnc67⟩ := nB NB504_502
      obtain ⟨hnb68, hnc68⟩ := nB NB504_503
      obtain ⟨hcz69_0, hcz69_1, hcz69_2, hfz69_0, hfz69_1, hfz69_2⟩ := bK3 (w := w62) BK504
      try go_wp2_with (first | (refine gC (some 26) Tryz.func9 #[.agg #[.int .i64 x505000_1, .int .i64 x505001_1, .bool x505002_1], .agg #[.int .i64 x505000_1, .int .i64 x505001_1, .bool x505002_1]] ?_; (with_reducible refine (impl_PointAdd.calls k1 x505000_1 x505001_1 x505002_1 x505000_1 x505001_1 x505002_1 t512 t513 t514 _ A25.out).mono ?_); rintro e w70 ⟨rfl, hb⟩; refine ⟨_, rfl, ?_⟩; replace BK500 := bB BK500 hb; replace BK501 := bB BK501 hb; replace BK502 := bB BK502 hb; replace BK503 := bV 75 #[.int .i64 t510, .int .i64 t511] BK503 hb; replace BK504 := bB BK504 hb; replace HB := bS HB hb; (try clear hb); obtain ⟨hcz71_0, hcz71_1, hcz71_2, hfz71_0, hfz71_1, hfz71_2⟩ := bK3 (w := w70) BK504))
      go_roundg k1
      case measure => have := HK1.out; omega
      case rel => exact ⟨(wrap64 (x7_1 - 1)), (t510), (t511), (t512), (t513), (t514), rS, H', ⟨by have := HK1.out; omega⟩, ⟨bP BK500⟩, ⟨bP BK501⟩, ⟨bP BK502⟩, ⟨bP BK503⟩, ⟨bU BK504⟩, ⟨bZ HB⟩⟩
    ·rw [if_neg c27] at H
     exact absurd H (by simp)
   ·rw [if_neg c21] at H
    have c21b0 := decide_eq_false c21
    clear c21
    simp only [Option.some.injEq, Prod.mk.injEq] at H
    obtain ⟨rfl, rfl⟩ := H
    obtain ⟨hnb72, hnc72⟩ := nB NB503_500
    obtain ⟨hnb73, hnc73⟩ := nB NB503_501
    obtain ⟨hnb74, hnc74⟩ := nB NB503_502
    obtain ⟨hnb75, hnc75⟩ := nB NB503_504
    obtain ⟨hcz76_0, hcz76_1, hfz76_0, hfz76_1⟩ := bK2 (w := wr) BK503
    obtain ⟨hnb77, hnc77⟩ := nB NB502_500
    obtain ⟨hnb78, hnc78⟩ := nB NB502_501
    obtain ⟨hnb79, hnc79⟩ := nB NB502_504
    obtain ⟨hcz80_0, hcz80_1, hfz80_0, hfz80_1⟩ := bK2 (w := wr) BK502
    go_wp2
    refine rC gb502 75 #[.int .i64 x504000_1, .int .i64 x504001_1] (bU BK502) Tryz.underlying75 ?_
    exact ⟨rR, bZ HB⟩
def impl_TwoPow.l0 : Nat → Int → Int → Int → Int → Int → Option (Int × Int)
 | 0, _, _, _, _, _ => none
 | k + 1, x1, x523000, x523001, x525000, x525001 => if x1 > 0 then (if (Int.tmod x1 2) = 1 then ((impl_TwoMul.f x525000 x525001 x523000 x523001).bind fun bt525 => ((impl_TwoMul.f x523000 x523001 x523000 x523001).bind fun bt527 => (impl_TwoPow.l0 k (wrap64 (Int.tdiv x1 2)) bt527.1 bt527.2 bt525.1 bt525.2))) else ((impl_TwoMul.f x523000 x523001 x523000 x523001).bind fun bt529 => (impl_TwoPow.l0 k (wrap64 (Int.tdiv x1 2)) bt529.1 bt529.2 x525000 x525001))) else (some (x525000, x525001))
def impl_TwoPow.f (k : Nat) (a0_0 : Int) (a0_1 : Int) (a1 : Int) : Option (Int × Int) := if a1 < 0 then (some (0, 0)) else (impl_TwoPow.l0 k a1 a0_0 a0_1 1 0)
set_option maxHeartbeats 8000000 in
set_option maxRecDepth 100000 in
theorem impl_TwoPow.calls (k : Nat) (a0_0 : Int) (a0_1 : Int) (a1 : Int) (r1 : Int) (r2 : Int) (w : World) (h : impl_TwoPow.f k a0_0 a0_1 a1 = some (r1, r2)) :
  Calls Tryz.prog 103 #[.agg #[.int .i64 a0_0, .int .i64 a0_1], .int .i64 a1] w fun e w' => e = .returned (.agg #[.int .i64 r1, .int .i64 r2]) ∧ Below w.heap.size w w' := by
 have hu75 := Tryz.underlying75
 have HB := Aside0.mk (Below.refl w.heap.size w)
 have H : (if a1 < 0 then (some (0, 0)) else (impl_TwoPow.l0 k a1 a0_0 a0_1 1 0)) = some (r1, r2) := h
 clear h
 by_cases c3 : a1 < 0
 ·rw [if_pos c3] at H
  have c3b0 := decide_eq_true c3
  clear c3
  simp only [Option.some.injEq, Prod.mk.injEq] at H
  obtain ⟨rfl, rfl⟩ := H
  go_enter Tryz.func103, Tryz.ntmps103
  go_wp2_with (first | (refine gB 2 #[.int .i64 a0_0, .int .i64 a0_1] 75 ?_; intro gb522 hg w4 BK522 hb; have GW522 := bG HB hg; replace HB := bS HB hb; clear hb hg) | (refine gB 4 #[.int .i64 0, .int .i64 0] 75 ?_; intro gb523 hg w5 BK523 hb; have GW523 := bG HB hg; replace HB := bS HB hb; obtain ⟨NB522_523, NB523_522⟩ := bN BK522 hg; replace BK522 := bB BK522 hb; clear hb hg; obtain ⟨hnb6, hnc6⟩ := nB NB523_522; obtain ⟨hcz7_0, hcz7_1, hfz7_0, hfz7_1⟩ := bK2 (w := w5) BK523))
  refine rC gb523 75 #[.int .i64 0, .int .i64 0] (bU BK523) Tryz.underlying75 ?_
  exact ⟨rR, bZ HB⟩
 ·rw [if_neg c3] at H
  have c3b0 := decide_eq_false c3
  clear c3
  have H' := Aside0.mk H
  clear H
  go_enter Tryz.func103, Tryz.ntmps103
  go_wp2_with (first | (refine gB 2 #[.int .i64 a0_0, .int .i64 a0_1] 75 ?_; intro gb522 hg w8 BK522 hb; have GW522 := bG HB hg; replace HB := bS HB hb; clear hb hg) | (refine gB 4 #[.int .i64 0, .int .i64 0] 75 ?_; intro gb523 hg w9 BK523 hb; have GW523 := bG HB hg; replace HB := bS HB hb; obtain ⟨NB522_523, NB523_522⟩ := bN BK522 hg; replace BK522 := bB BK522 hb; clear hb hg) | (refine gB 5 #[.int .i64 0, .int .i64 0] 75 ?_; intro gb524 hg w10 BK524 hb; have GW524 := bG HB hg; replace HB := bS HB hb; obtain ⟨NB522_524, NB524_522⟩ := bN BK522 hg; replace BK522 := bB BK522 hb; obtain ⟨NB523_524, NB524_523⟩ := bN BK523 hg; replace BK523 := bB BK523 hb; clear hb hg; obtain ⟨hnb11, hnc11⟩ := nB NB524_522; obtain ⟨hnb12, hnc12⟩ := nB NB524_523; obtain ⟨hcz13_0, hcz13_1, hfz13_0, hfz13_1⟩ := bK2 (w := w10) BK524))
  go_loopg [1] k (fun kq v1 w' => ∃ (x1_1 : Int) (x523000_1 : Int) (x523001_1 : Int) (x525000_1 : Int) (x525001_1 : Int), v1 = .int .i64 x1_1 ∧ Aside0 (impl_TwoPow.l0 kq x1_1 x523000_1 x523001_1 x525000_1 x525001_1 = some (r1, r2)) ∧ Aside0 (kq ≤ k) ∧ Aside0 (w'.heap[gb522]? = some (.cells #[.int .i64 x523000_1, .int .i64 x523001_1] 75 (0, 0))) ∧ Aside0 (w'.heap[gb523]? = some (.cells #[.int .i64 0, .int .i64 0] 75 (0, 0))) ∧ Aside0 (w'.heap[gb524]? = some (.cells #[.int .i64 x525000_1, .int .i64 x525001_1] 75 (0, 0))) ∧ Aside0 (Below w.heap.size w w'))
  case atStart => exact ⟨(a1), (a0_0), (a0_1), (1), (0), rS, H', ⟨Nat.le_refl _⟩, ⟨bP BK522⟩, ⟨bP BK523⟩, ⟨bU BK524⟩, ⟨bZ HB⟩⟩
  case round =>
   clear H'
   try clear c1
   try clear p2
   try clear c3
   try clear c3b0
   try clear c6
   try clear c10
   try clear c11
   try clear c12
   try clear hcz13_0
   try clear hcz13_1
   try clear hcz7_0
   try clear hcz7_1
   try clear hfz13_0
   try clear hfz13_1
   try clear hfz7_0
   try clear hfz7_1
   obtain ⟨x1_1, x523000_1, x523001_1, x525000_1, x525001_1, rfl, HA, HK1, BK522, BK523, BK524, HB⟩ := hrel
   cases gk with
   | zero => exact absurd HA.out (by simp [impl_TwoPow.l0])
   | succ k1 =>
    have H := HA.out
    clear HA
    simp only [impl_TwoPow.l0] at H
    by_cases c14 : x1_1 > 0
    ·rw [if_pos c14] at H
     have c14b0 := decide_eq_true c14
     clear c14
     by_cases c15 : (Int.tmod x1_1 2) = 1
     ·rw [if_pos c15] at H
      have c15b0 : ((Int.tmod x1_1 2) == 1) = true := beq_iff_eq.mpr c15
      have c15b1 : ((Int.tmod x1_1 2) != 1) = false := bne_eq_false_iff_eq.mpr c15
      clear c15
      replace H := Option.bind_eq_some_iff.mp H
      obtain ⟨⟨t525, t526⟩, A160, H⟩ := H
      have A16 := Aside0.mk A160
      clear A160
      replace H := Option.bind_eq_some_iff.mp H
      obtain ⟨⟨t527, t528⟩, A170, H⟩ := H
      have A17 := Aside0.mk A170
      clear A170
      have H' := Aside0.mk H
      clear H
      obtain ⟨hnb18, hnc18⟩ := nB NB524_522
      obtain ⟨hnb19, hnc19⟩ := nB NB524_523
      obtain ⟨hcz20_0, hcz20_1, hfz20_0, hfz20_1⟩ := bK2 (w := wr) BK524
      obtain ⟨hnb21, hnc21⟩ := nB NB522_523
      obtain ⟨hcz22_0, hcz22_1, hfz22_0, hfz22_1⟩ := bK2 (w := wr) BK522
      go_wp2_with (first | (refine gC (some 17) Tryz.func104 #[.agg #[.int .i64 x525000_1, .int .i64 x525001_1], .agg #[.int .i64 x523000_1, .int .i64 x523001_1]] ?_; (with_reducible refine (impl_TwoMul.calls x525000_1 x525001_1 x523000_1 x523001_1 t525 t526 _ A16.out).mono ?_); rintro e w23 ⟨rfl, hb⟩; refine ⟨_, rfl, ?_⟩; replace BK522 := bB BK522 hb; replace BK523 := bB BK523 hb; replace BK524 := bB BK524 hb; replace HB := bS HB hb; (try clear hb); obtain ⟨hcz24_0, hcz24_1, hfz24_0, hfz24_1⟩ := bK2 (w := w23) BK524; obtain ⟨hcz25_0, hcz25_1, hfz25_0, hfz25_1⟩ := bK2 (w := w23) BK522) | (refine gC (some 20) Tryz.func104 #[.agg #[.int .i64 x523000_1, .int .i64 x523001_1], .agg #[.int .i64 x523000_1, .int .i64 x523001_1]] ?_; (with_reducible refine (impl_TwoMul.calls x523000_1 x523001_1 x523000_1 x523001_1 t527 t528 _ A17.out).mono ?_); rintro e w26 ⟨rfl, hb⟩; refine ⟨_, rfl, ?_⟩; replace BK522 := bB BK522 hb; replace BK523 := bB BK523 hb; replace BK524 := bV 75 #[.int .i64 t525, .int .i64 t526] BK524 hb; replace HB := bS HB hb; (try clear hb); obtain ⟨hcz27_0, hcz27_1, hfz27_0, hfz27_1⟩ := bK2 (w := w26) BK522))
      go_roundg k1
      case measure => have := HK1.out; omega
      case rel => exact ⟨(wrap64 (Int.tdiv x1_1 2)), (t527), (t528), (t525), (t526), rS, H', ⟨by have := HK1.out; omega⟩, ⟨bU BK522⟩, ⟨bP BK523⟩, ⟨bP BK524⟩, ⟨bZ HB⟩⟩
     ·rw [if_neg c15] at H
      have c15b0 : ((Int.tmod x1_1 2) == 1) = false := beq_eq_false_iff_ne.mpr c15
      have c15b1 : ((Int.tmod x1_1 2) != 1) = true := bne_iff_ne.mpr c15
      replace H := Option.bind_eq_some_iff.mp H
      obtain ⟨⟨t529, t530⟩, A280, H⟩ := H
      have A28 := Aside0.mk A280
      clear A280
      have H' := Aside0.mk H
      clear H
      obtain ⟨hnb29, hnc29⟩ := nB NB522_523
      obtain ⟨hnb30, hnc30⟩ := nB NB522_524
      obtain ⟨hcz31_0, hcz31_1, hfz31_0, hfz31_1⟩ := bK2 (w := wr) BK522
      go_wp2_with (first | (refine gC (some 20) Tryz.func104 #[.agg #[.int .i64 x523000_1, .int .i64 x523001_1], .agg #[.int .i64 x523000_1, .int .i64 x523001_1]] ?_; (with_reducible refine (impl_TwoMul.calls x523000_1 x523001_1 x523000_1 x523001_1 t529 t530 _ A28.out).mono ?_); rintro e w32 ⟨rfl, hb⟩; refine ⟨_, rfl, ?_⟩; replace BK522 := bB BK522 hb; replace BK523 := bB BK523 hb; replace BK524 := bB BK524 hb; replace HB := bS HB hb; (try clear hb); obtain ⟨hcz33_0, hcz33_1, hfz33_0, hfz33_1⟩ := bK2 (w := w32) BK522))
      go_roundg k1
      case measure => have := HK1.out; omega
      case rel => exact ⟨(wrap64 (Int.tdiv x1_1 2)), (t529), (t530), (x525000_1), (x525001_1), rS, H', ⟨by have := HK1.out; omega⟩, ⟨bU BK522⟩, ⟨bP BK523⟩, ⟨bP BK524⟩, ⟨bZ HB⟩⟩
    ·rw [if_neg c14] at H
     have c14b0 := decide_eq_false c14
     clear c14
     simp only [Option.some.injEq, Prod.mk.injEq] at H
     obtain ⟨rfl, rfl⟩ := H
     obtain ⟨hnb34, hnc34⟩ := nB NB524_522
     obtain ⟨hnb35, hnc35⟩ := nB NB524_523
     obtain ⟨hcz36_0, hcz36_1, hfz36_0, hfz36_1⟩ := bK2 (w := wr) BK524
     obtain ⟨hnb37, hnc37⟩ := nB NB523_522
     obtain ⟨hcz38_0, hcz38_1, hfz38_0, hfz38_1⟩ := bK2 (w := wr) BK523
     go_wp2
     refine rC gb523 75 #[.int .i64 x525000_1, .int .i64 x525001_1] (bU BK523) Tryz.underlying75 ?_
     exact ⟨rR, bZ HB⟩
def impl_TwoTurn.f (a0_0 : Int) (a0_1 : Int) : Option (Int × Int) := (impl_FpOf.f a0_0).bind fun t533 => ((impl_FpSub.f 0 a0_1).bind fun t534 => (some (t533, t534)))
def impl_TwoTurn.T1 : Bool × List (List Nat × List Nat) := (true, [([], []), ([0], [0]), ([1], [1]), ([], []), ([3], [3]), ([4, 2], [4]), ([2, 5], [2, 5]), ([6, 5, 0, 1, 2, 3, 4, 5, 6], [6])])
def impl_TwoTurn.B1 : List Nat := [0, 1, 3, 0, 8, 31, 63, 127]
theorem impl_TwoTurn.tab1 : rtab .any (opsOf Tryz.f105 1) = impl_TwoTurn.T1 := by kernel_rfl
theorem impl_TwoTurn.bits1 : waitsOk impl_TwoTurn.T1.2 impl_TwoTurn.B1 = true := by kernel_rfl
set_option maxHeartbeats 8000000 in
set_option maxRecDepth 100000 in
theorem impl_TwoTurn.calls (a0_0 : Int) (a0_1 : Int) (r1 : Int) (r2 : Int) (w : World) (h : impl_TwoTurn.f a0_0 a0_1 = some (r1, r2)) :
  Calls Tryz.prog 105 #[.agg #[.int .i64 a0_0, .int .i64 a0_1]] w fun e w' => e = .returned (.agg #[.int .i64 r1, .int .i64 r2]) ∧ Below w.heap.size w w' := by
 have hu75 := Tryz.underlying75
 have HB := Aside0.mk (Below.refl w.heap.size w)
 have H : ((impl_FpOf.f a0_0).bind fun t533 => ((impl_FpSub.f 0 a0_1).bind fun t534 => (some (t533, t534)))) = some (r1, r2) := h
 clear h
 replace H := Option.bind_eq_some_iff.mp H
 obtain ⟨t533, A20, H⟩ := H
 have A2 := Aside0.mk A20
 clear A20
 replace H := Option.bind_eq_some_iff.mp H
 obtain ⟨t534, A30, H⟩ := H
 have A3 := Aside0.mk A30
 clear A30
 simp only [Option.some.injEq, Prod.mk.injEq] at H
 obtain ⟨rfl, rfl⟩ := H
 go_enter Tryz.func105, Tryz.ntmps105
 try go_wp2_with (first | (refine gB 1 #[.int .i64 a0_0, .int .i64 a0_1] 75 ?_; intro gb531 hg w4 BK531 hb; have GW531 := bG HB hg; replace HB := bS HB hb; clear hb hg) | (refine gB 2 #[.int .i64 0, .int .i64 0] 75 ?_; intro gb532 hg w5 BK532 hb; have GW532 := bG HB hg; replace HB := bS HB hb; obtain ⟨NB531_532, NB532_531⟩ := bN BK531 hg; replace BK531 := bB BK531 hb; clear hb hg))
 replace BK531 := Aside0.mk (blk_drew BK531.out)
 replace BK532 := Aside0.mk (blk_drew BK532.out)
 replace HB := Aside0.mk (below_drew1 HB.out)
 refine start_ (n := 8) (S := fun w' => SQ2 w' gb531 (.int .i64 a0_0) (.int .i64 a0_1)) (ds := []) #[false, false, false, false, false, false, false, false] (by kernel_rfl) rfl rfl (bT2 BK531) (fun hHeld => ?_); refine with_tabW impl_TwoTurn.tab1 impl_TwoTurn.bits1 (fun HT_ HW_ => ?_)
 generalize w5.drew = w6 at BK531 BK532 HB hHeld ⊢
 refine pI 0 (some 3) HT_.out ?_
 refine pI 3 (some 6) HT_.out ?_
 refine tI2 1 (some 4) HT_.out HW_.out hHeld ?_
 refine tI2 4 (some 7) HT_.out HW_.out hHeld ?_
 refine oI 2 (some 5) HT_.out (fun K hK => ?_)
 refine gO Tryz.func56 #[.int .i64 a0_0] ?_
 with_reducible refine (impl_FpOf.calls a0_0 t533 _ A2.out).mono ?_
 rintro e w' ⟨rfl, ⟨nd, rfl⟩⟩
 refine ⟨_, rfl, ?_⟩
 refine hK.out _ _ (bT2 BK531) (fun hHeld => ?_)
 clear hK K
 refine nO (some 5) ?_
 refine oI 5 (some 8) HT_.out (fun K hK => ?_)
 refine gO Tryz.func90 #[.int .i64 0, .int .i64 a0_1] ?_
 with_reducible refine (impl_FpSub.calls 0 a0_1 t534 _ A3.out).mono ?_
 rintro e w' ⟨rfl, ⟨nd, rfl⟩⟩
 refine ⟨_, rfl, ?_⟩
 refine hK.out _ _ (bT2 BK531) (fun hHeld => ?_)
 clear hK K
 refine nO (some 8) ?_
 refine pI 6 (some 9) HT_.out ?_
 refine oI 7 (none) HT_.out (fun K hK => ?_)
 have hs7 : w6.cell? ⟨gb532, 0, none⟩ = some (.int .i64 0) := bc BK532 0
 have hfs7 := blk_frozen BK532.out 0
 obtain ⟨hns7_0, hms7_0⟩ := nB NB531_532
 have hs8 : w6.cell? ⟨gb532, 1, none⟩ = some (.int .i64 0) := bc BK532 1
 have hfs8 := blk_frozen BK532.out 1
 obtain ⟨hns8_0, hms8_0⟩ := nB NB531_532
 refine skip_ (w1 := ?_) (by rfl) rfl ?_ ?_
 rotate_left
 ·go_simp
  rfl
 refine hK.out _ _ ⟨((cell_far (p := ⟨gb532, _, none⟩) NB531_532.out _).trans (((cell_far (p := ⟨gb532, _, none⟩) NB531_532.out _).trans (hHeld.1)))), ((cell_far (p := ⟨gb532, _, none⟩) NB531_532.out _).trans (((cell_far (p := ⟨gb532, _, none⟩) NB531_532.out _).trans (hHeld.2))))⟩ (fun hHeld => ?_)
 clear hK K
 refine done_ (done_of HT_.out (by kernel_rfl)) ?_
 try go_wp2
 refine rC gb532 75 #[.int .i64 t533, .int .i64 t534] (bU BK532) Tryz.underlying75 ?_
 exact ⟨rR, bZ HB⟩
def impl_TwoInv.f (k : Nat) (a0_0 : Int) (a0_1 : Int) : Option (Int × Int) := (impl_FpMul.f a0_0 a0_0).bind fun t537 => ((impl_FpMul.f a0_1 a0_1).bind fun t538 => ((impl_FpAdd.f t537 t538).bind fun t539 => ((impl_FpInv.f k t539).bind fun t540 => ((impl_FpMul.f a0_0 t540).bind fun t541 => ((impl_FpSub.f 0 a0_1).bind fun t542 => ((impl_FpMul.f t542 t540).bind fun t543 => (some (t541, t543))))))))
def impl_TwoInv.T1 : Bool × List (List Nat × List Nat) := (true, [([], []), ([0], [0]), ([], []), ([2], [2]), ([1, 3], [1, 3]), ([], []), ([5], [5]), ([], []), ([7], [7]), ([6, 8, 4], [6, 8]), ([4, 9, 9], [4, 9]), ([10, 10], [10]), ([11, 11, 0, 1, 2, 3, 4, 5, 6, 7, 8, 9, 10, 11], [11])])
def impl_TwoInv.B1 : List Nat := [0, 1, 0, 4, 15, 0, 32, 0, 128, 511, 1023, 2047, 4095]
theorem impl_TwoInv.tab1 : rtab .any (opsOf Tryz.f106 1) = impl_TwoInv.T1 := by kernel_rfl
theorem impl_TwoInv.bits1 : waitsOk impl_TwoInv.T1.2 impl_TwoInv.B1 = true := by kernel_rfl
def impl_TwoInv.T2 : Bool × List (List Nat × List Nat) := (true, [([], []), ([0], [0]), ([], []), ([1, 2], [1, 2]), ([], []), ([4], [4]), ([5, 3], [5]), ([], []), ([6, 7, 6], [6, 7]), ([3, 8], [3, 8]), ([9, 8, 0, 1, 2, 3, 4, 5, 6, 7, 8, 9], [9])])
def impl_TwoInv.B2 : List Nat := [0, 1, 0, 7, 0, 16, 63, 0, 255, 511, 1023]
theorem impl_TwoInv.tab2 : rtab .any (opsOf Tryz.f106 2) = impl_TwoInv.T2 := by kernel_rfl
theorem impl_TwoInv.bits2 : waitsOk impl_TwoInv.T2.2 impl_TwoInv.B2 = true := by kernel_rfl
set_option maxHeartbeats 8000000 in
set_option maxRecDepth 100000 in
theorem impl_TwoInv.calls (k : Nat) (a0_0 : Int) (a0_1 : Int) (r1 : Int) (r2 : Int) (w : World) (h : impl_TwoInv.f k a0_0 a0_1 = some (r1, r2)) :
  Calls Tryz.prog 106 #[.agg #[.int .i64 a0_0, .int .i64 a0_1]] w fun e w' => e = .returned (.agg #[.int .i64 r1, .int .i64 r2]) ∧ Below w.heap.size w w' := by
 have hu75 := Tryz.underlying75
 have HB := Aside0.mk (Below.refl w.heap.size w)
 have H : ((impl_FpMul.f a0_0 a0_0).bind fun t537 => ((impl_FpMul.f a0_1 a0_1).bind fun t538 => ((impl_FpAdd.f t537 t538).bind fun t539 => ((impl_FpInv.f k t539).bind fun t540 => ((impl_FpMul.f a0_0 t540).bind fun t541 => ((impl_FpSub.f 0 a0_1).bind fun t542 => ((impl_FpMul.f t542 t540).bind fun t543 => (some (t541, t543))))))))) = some (r1, r2) := h
 clear h
 replace H := Option.bind_eq_some_iff.mp H
 obtain ⟨t537, A20, H⟩ := H
 have A2 := Aside0.mk A20
 clear A20
 replace H := Option.bind_eq_some_iff.mp H
 obtain ⟨t538, A30, H⟩ := H
 have A3 := Aside0.mk A30
 clear A30
 replace H := Option.bind_eq_some_iff.mp H
 obtain ⟨t539, A40, H⟩ := H
 have A4 := Aside0.mk A40
 clear A40
 replace H := Option.bind_eq_some_iff.mp H
 obtain ⟨t540, A50, H⟩ := H
 have A5 := Aside0.mk A50
 clear A50
 replace H := Option.bind_eq_some_iff.mp H
 obtain ⟨t541, A60, H⟩ := H
 have A6 := Aside0.mk A60
 clear A60
 replace H := Option.bind_eq_some_iff.mp H
 obtain ⟨t542, A70, H⟩ := H
 have A7 := Aside0.mk A70
 clear A70
 replace H := Option.bind_eq_some_iff.mp H
 obtain ⟨t543, A80, H⟩ := H
 have A8 := Aside0.mk A80
 clear A80
 simp only [Option.some.injEq, Prod.mk.injEq] at H
 obtain ⟨rfl, rfl⟩ := H
 go_enter Tryz.func106, Tryz.ntmps106
 try go_wp2_with (first | (refine gB 1 #[.int .i64 a0_0, .int .i64 a0_1] 75 ?_; intro gb535 hg w9 BK535 hb; have GW535 := bG HB hg; replace HB := bS HB hb; clear hb hg) | (refine gB 2 #[.int .i64 0, .int .i64 0] 75 ?_; intro gb536 hg w10 BK536 hb; have GW536 := bG HB hg; replace HB := bS HB hb; obtain ⟨NB535_536, NB536_535⟩ := bN BK535 hg; replace BK535 := bB BK535 hb; clear hb hg))
 replace BK535 := Aside0.mk (blk_drew BK535.out)
 replace BK536 := Aside0.mk (blk_drew BK536.out)
 replace HB := Aside0.mk (below_drew1 HB.out)
 refine start_ (n := 13) (S := fun w' => SQ2 w' gb535 (.int .i64 a0_0) (.int .i64 a0_1)) (ds := []) #[false, false, false, false, false, false, false, false, false, false, false, false, false] (by kernel_rfl) rfl rfl (bT2 BK535) (fun hHeld => ?_); refine with_tabW impl_TwoInv.tab1 impl_TwoInv.bits1 (fun HT_ HW_ => ?_)
 generalize w10.drew = w11 at BK535 BK536 HB hHeld ⊢
 refine pI 0 (some 4) HT_.out ?_
 refine pI 2 (some 6) HT_.out ?_
 refine pI 5 (some 9) HT_.out ?_
 refine pI 7 (some 11) HT_.out ?_
 refine tI2 1 (some 5) HT_.out HW_.out hHeld ?_
 refine tI2 3 (some 7) HT_.out HW_.out hHeld ?_
 refine tI2 6 (some 10) HT_.out HW_.out hHeld ?_
 refine tI2 8 (some 12) HT_.out HW_.out hHeld ?_
 refine oI 4 (some 8) HT_.out (fun K hK => ?_)
 refine gO Tryz.func88 #[.int .i64 a0_0, .int .i64 a0_0] ?_
 with_reducible refine (impl_FpMul.calls a0_0 a0_0 t537 _ A2.out).mono ?_
 rintro e w' ⟨rfl, ⟨nd, rfl⟩⟩
 refine ⟨_, rfl, ?_⟩
 refine hK.out _ _ (bT2 BK535) (fun hHeld => ?_)
 clear hK K
 refine nO (some 8) ?_
 refine oI 9 (some 13) HT_.out (fun K hK => ?_)
 refine gO Tryz.func88 #[.int .i64 a0_1, .int .i64 a0_1] ?_
 with_reducible refine (impl_FpMul.calls a0_1 a0_1 t538 _ A3.out).mono ?_
 rintro e w' ⟨rfl, ⟨nd, rfl⟩⟩
 refine ⟨_, rfl, ?_⟩
 refine hK.out _ _ (bT2 BK535) (fun hHeld => ?_)
 clear hK K
 refine nO (some 13) ?_
 refine oI 10 (some 14) HT_.out (fun K hK => ?_)
 refine gO Tryz.func98 #[.int .i64 t537, .int .i64 t538] ?_
 with_reducible refine (impl_FpAdd.calls t537 t538 t539 _ A4.out).mono ?_
 rintro e w' ⟨rfl, ⟨nd, rfl⟩⟩
 refine ⟨_, rfl, ?_⟩
 refine hK.out _ _ (bT2 BK535) (fun hHeld => ?_)
 clear hK K
 refine nO (some 14) ?_
 refine oI 11 (some 15) HT_.out (fun K hK => ?_)
 refine gO Tryz.func131 #[.int .i64 t539] ?_
 with_reducible refine (impl_FpInv.calls k t539 t540 _ A5.out).mono ?_
 rintro e w' ⟨rfl, ⟨nd, rfl⟩⟩
 refine ⟨_, rfl, ?_⟩
 refine hK.out _ _ (bT2 BK535) (fun hHeld => ?_)
 clear hK K
 refine nO (some 15) ?_
 refine pI 12 (some 3) HT_.out ?_
 refine done_ (done_of HT_.out (by kernel_rfl)) ?_
 try go_wp2
 (try simp only [World.drewN_drewN]); (try (rw [drewN_self w11]; generalize hq_ : World.drewN w11 _ = w11; replace BK535 : Aside0 (w11.heap[gb535]? = some (.cells #[.int .i64 a0_0, .int .i64 a0_1] 75 (0, 0))) := ⟨by rw [← hq_]; exact (bP BK535)⟩; replace BK536 : Aside0 (w11.heap[gb536]? = some (.cells #[.int .i64 0, .int .i64 0] 75 (0, 0))) := ⟨by rw [← hq_]; exact (bP BK536)⟩; replace HB : Aside0 (Below w.heap.size w w11) := ⟨by rw [← hq_]; exact (bZ HB)⟩; clear hq_))
 replace BK535 := Aside0.mk (blk_drew BK535.out)
 replace BK536 := Aside0.mk (blk_drew BK536.out)
 replace HB := Aside0.mk (below_drew1 HB.out)
 refine start_ (n := 11) (S := fun w' => SQ2 w' gb535 (.int .i64 a0_0) (.int .i64 a0_1)) (ds := []) #[false, false, false, false, false, false, false, false, false, false, false] (by kernel_rfl) rfl rfl (bT2 BK535) (fun hHeld => ?_); refine with_tabW impl_TwoInv.tab2 impl_TwoInv.bits2 (fun HT_ HW_ => ?_)
 generalize w11.drew = w12 at BK535 BK536 HB hHeld ⊢
 refine pI 0 (some 16) HT_.out ?_
 refine pI 2 (some 18) HT_.out ?_
 refine pI 4 (some 20) HT_.out ?_
 refine pI 7 (some 23) HT_.out ?_
 refine tI2 1 (some 17) HT_.out HW_.out hHeld ?_
 refine tI2 5 (some 21) HT_.out HW_.out hHeld ?_
 refine oI 3 (some 19) HT_.out (fun K hK => ?_)
 refine gO Tryz.func88 #[.int .i64 a0_0, .int .i64 t540] ?_
 with_reducible refine (impl_FpMul.calls a0_0 t540 t541 _ A6.out).mono ?_
 rintro e w' ⟨rfl, ⟨nd, rfl⟩⟩
 refine ⟨_, rfl, ?_⟩
 refine hK.out _ _ (bT2 BK535) (fun hHeld => ?_)
 clear hK K
 refine nO (some 19) ?_
 refine oI 6 (some 22) HT_.out (fun K hK => ?_)
 refine gO Tryz.func90 #[.int .i64 0, .int .i64 a0_1] ?_
 with_reducible refine (impl_FpSub.calls 0 a0_1 t542 _ A7.out).mono ?_
 rintro e w' ⟨rfl, ⟨nd, rfl⟩⟩
 refine ⟨_, rfl, ?_⟩
 refine hK.out _ _ (bT2 BK535) (fun hHeld => ?_)
 clear hK K
 refine nO (some 22) ?_
 refine oI 8 (some 24) HT_.out (fun K hK => ?_)
 refine gO Tryz.func88 #[.int .i64 t542, .int .i64 t540] ?_
 with_reducible refine (impl_FpMul.calls t542 t540 t543 _ A8.out).mono ?_
 rintro e w' ⟨rfl, ⟨nd, rfl⟩⟩
 refine ⟨_, rfl, ?_⟩
 refine hK.out _ _ (bT2 BK535) (fun hHeld => ?_)
 clear hK K
 refine nO (some 24) ?_
 refine pI 9 (some 25) HT_.out ?_
 refine oI 10 (none) HT_.out (fun K hK => ?_)
 have hs13 : w12.cell? ⟨gb536, 0, none⟩ = some (.int .i64 0) := bc BK536 0
 have hfs13 := blk_frozen BK536.out 0
 obtain ⟨hns13_0, hms13_0⟩ := nB NB535_536
 have hs14 : w12.cell? ⟨gb536, 1, none⟩ = some (.int .i64 0) := bc BK536 1
 have hfs14 := blk_frozen BK536.out 1
 obtain ⟨hns14_0, hms14_0⟩ := nB NB535_536
 refine skip_ (w1 := ?_) (by rfl) rfl ?_ ?_
 rotate_left
 ·go_simp
  rfl
 refine hK.out _ _ ⟨((cell_far (p := ⟨gb536, _, none⟩) NB535_536.out _).trans (((cell_far (p := ⟨gb536, _, none⟩) NB535_536.out _).trans (hHeld.1)))), ((cell_far (p := ⟨gb536, _, none⟩) NB535_536.out _).trans (((cell_far (p := ⟨gb536, _, none⟩) NB535_536.out _).trans (hHeld.2))))⟩ (fun hHeld => ?_)
 clear hK K
 refine done_ (done_of HT_.out (by kernel_rfl)) ?_
 try go_wp2
 refine rC gb536 75 #[.int .i64 t541, .int .i64 t543] (bU BK536) Tryz.underlying75 ?_
 exact ⟨rR, bZ HB⟩
def impl_Pairing.j0 : Nat → Bool → Int → Int → Bool → Int → Int → Bool → Option (Int × Int)
 | 0, _, _, _, _, _, _, _ => none
 | k + 1, x21, x545000, x545001, x545002, x546000, x546001, x546002 => if x21 = true then (some (1, 0)) else ((impl_Miller.f k x545000 x545001 x545002 x546000 x546001 x546002).bind fun bt549 => ((impl_TwoTurn.f bt549.1 bt549.2).bind fun bt552 => ((impl_TwoInv.f k bt549.1 bt549.2).bind fun bt554 => ((impl_TwoMul.f bt552.1 bt552.2 bt554.1 bt554.2).bind fun bt556 => ((impl_TwoPow.f k bt556.1 bt556.2 12).bind fun bt558 => (some (bt558.1, bt558.2)))))))
def impl_Pairing.f (k : Nat) (a0_0 : Int) (a0_1 : Int) (a0_2 : Bool) (a1_0 : Int) (a1_1 : Int) (a1_2 : Bool) : Option (Int × Int) := if a0_2 = true then (impl_Pairing.j0 k true a0_0 a0_1 a0_2 a1_0 a1_1 a1_2) else (if a1_2 = true then (impl_Pairing.j0 k true a0_0 a0_1 a0_2 a1_0 a1_1 a1_2) else ((impl_InGroup.f k a0_0 a0_1 a0_2).bind fun t547 => (if t547 = true then ((impl_InGroup.f k a1_0 a1_1 a1_2).bind fun t548 => (impl_Pairing.j0 k (!t548) a0_0 a0_1 a0_2 a1_0 a1_1 a1_2)) else (impl_Pairing.j0 k true a0_0 a0_1 a0_2 a1_0 a1_1 a1_2))))
set_option maxHeartbeats 8000000 in
set_option maxRecDepth 100000 in
theorem impl_Pairing.calls (k : Nat) (a0_0 : Int) (a0_1 : Int) (a0_2 : Bool) (a1_0 : Int) (a1_1 : Int) (a1_2 : Bool) (r1 : Int) (r2 : Int) (w : World) (h : impl_Pairing.f k a0_0 a0_1 a0_2 a1_0 a1_1 a1_2 = some (r1, r2)) :
  Calls Tryz.prog 60 #[.agg #[.int .i64 a0_0, .int .i64 a0_1, .bool a0_2], .agg #[.int .i64 a1_0, .int .i64 a1_1, .bool a1_2]] w fun e w' => e = .returned (.agg #[.int .i64 r1, .int .i64 r2]) ∧ Below w.heap.size w w' := by
 have hu28 := Tryz.underlying28
 have hu75 := Tryz.underlying75
 have HB := Aside0.mk (Below.refl w.heap.size w)
 have H : (if a0_2 = true then (impl_Pairing.j0 k true a0_0 a0_1 a0_2 a1_0 a1_1 a1_2) else (if a1_2 = true then (impl_Pairing.j0 k true a0_0 a0_1 a0_2 a1_0 a1_1 a1_2) else ((impl_InGroup.f k a0_0 a0_1 a0_2).bind fun t547 => (if t547 = true then ((impl_InGroup.f k a1_0 a1_1 a1_2).bind fun t548 => (impl_Pairing.j0 k (!t548) a0_0 a0_1 a0_2 a1_0 a1_1 a1_2)) else (impl_Pairing.j0 k true a0_0 a0_1 a0_2 a1_0 a1_1 a1_2))))) = some (r1, r2) := h
 clear h
 have HC3 := Aside0.mk H
 clear H
 go_enter Tryz.func60, Tryz.ntmps60
 go_upto_region 1 with (first | (refine gB 2 #[.int .i64 a0_0, .int .i64 a0_1, .bool a0_2] 28 ?_; intro gb544 hg w4 BK544 hb; have GW544 := bG HB hg; replace HB := bS HB hb; clear hb hg) | (refine gB 3 #[.int .i64 a1_0, .int .i64 a1_1, .bool a1_2] 28 ?_; intro gb545 hg w5 BK545 hb; have GW545 := bG HB hg; replace HB := bS HB hb; obtain ⟨NB544_545, NB545_544⟩ := bN BK544 hg; replace BK544 := bB BK544 hb; clear hb hg) | (refine gB 4 #[.int .i64 0, .int .i64 0] 75 ?_; intro gb546 hg w6 BK546 hb; have GW546 := bG HB hg; replace HB := bS HB hb; obtain ⟨NB544_546, NB546_544⟩ := bN BK544 hg; replace BK544 := bB BK544 hb; obtain ⟨NB545_546, NB546_545⟩ := bN BK545 hg; replace BK545 := bB BK545 hb; clear hb hg))
 (try simp only [Act.put, List.setIfInBounds_toArray, List.set_cons_zero, List.set_cons_succ])
 go_cut [21] (fun v21 wc => ∃ (kq : Nat) (x21_2 : Bool), v21 = .bool x21_2 ∧ Aside0 (impl_Pairing.j0 kq x21_2 a0_0 a0_1 a0_2 a1_0 a1_1 a1_2 = some (r1, r2)) ∧ Aside0 (kq ≤ k) ∧ Aside0 (wc.heap[gb544]? = some (.cells #[.int .i64 a0_0, .int .i64 a0_1, .bool a0_2] 28 (0, 0))) ∧ Aside0 (wc.heap[gb545]? = some (.cells #[.int .i64 a1_0, .int .i64 a1_1, .bool a1_2] 28 (0, 0))) ∧ Aside0 (wc.heap[gb546]? = some (.cells #[.int .i64 0, .int .i64 0] 75 (0, 0))) ∧ Aside0 (Below w.heap.size w wc))
 case first =>
  have H := HC3.out
  clear HC3
  by_cases c7 : a0_2 = true
  ·subst c7
   rw [if_pos rfl] at H
   have H' := Aside0.mk H
   clear H
   obtain ⟨hnb8, hnc8⟩ := nB NB544_545
   obtain ⟨hnb9, hnc9⟩ := nB NB544_546
   obtain ⟨hcz10_0, hcz10_1, hcz10_2, hfz10_0, hfz10_1, hfz10_2⟩ := bK3 (w := w6) BK544
   go_wp2
   go_meet
   case rel => exact ⟨_, (true), rS, H', ⟨by first | omega | exact Nat.le_refl _⟩, ⟨bP BK544⟩, ⟨bP BK545⟩, ⟨bP BK546⟩, ⟨bZ HB⟩⟩
  ·replace c7 := Bool.eq_false_iff.mpr c7
   subst c7
   rw [if_neg (show ¬ (false = true) by decide)] at H
   by_cases c11 : a1_2 = true
   ·subst c11
    rw [if_pos rfl] at H
    have H' := Aside0.mk H
    clear H
    obtain ⟨hnb12, hnc12⟩ := nB NB544_545
    obtain ⟨hnb13, hnc13⟩ := nB NB544_546
    obtain ⟨hcz14_0, hcz14_1, hcz14_2, hfz14_0, hfz14_1, hfz14_2⟩ := bK3 (w := w6) BK544
    obtain ⟨hnb15, hnc15⟩ := nB NB545_546
    obtain ⟨hcz16_0, hcz16_1, hcz16_2, hfz16_0, hfz16_1, hfz16_2⟩ := bK3 (w := w6) BK545
    go_wp2
    go_meet
    case rel => exact ⟨_, (true), rS, H', ⟨by first | omega | exact Nat.le_refl _⟩, ⟨bP BK544⟩, ⟨bP BK545⟩, ⟨bP BK546⟩, ⟨bZ HB⟩⟩
   ·replace c11 := Bool.eq_false_iff.mpr c11
    subst c11
    rw [if_neg (show ¬ (false = true) by decide)] at H
    replace H := Option.bind_eq_some_iff.mp H
    obtain ⟨t547, A170, H⟩ := H
    have A17 := Aside0.mk A170
    clear A170
    by_cases c18 : t547 = true
    ·subst c18
     rw [if_pos rfl] at H
     replace H := Option.bind_eq_some_iff.mp H
     obtain ⟨t548, A190, H⟩ := H
     have A19 := Aside0.mk A190
     clear A190
     have H' := Aside0.mk H
     clear H
     obtain ⟨hnb20, hnc20⟩ := nB NB544_545
     obtain ⟨hnb21, hnc21⟩ := nB NB544_546
     obtain ⟨hcz22_0, hcz22_1, hcz22_2, hfz22_0, hfz22_1, hfz22_2⟩ := bK3 (w := w6) BK544
     obtain ⟨hnb23, hnc23⟩ := nB NB545_546
     obtain ⟨hcz24_0, hcz24_1, hcz24_2, hfz24_0, hfz24_1, hfz24_2⟩ := bK3 (w := w6) BK545
     go_wp2_with (first | (go_at_call 21; (with_reducible refine (impl_InGroup.calls k a0_0 a0_1 false true _ A17.out).mono ?_); rintro e w25 ⟨rfl, hb⟩; replace BK544 := bB BK544 hb; replace BK545 := bB BK545 hb; replace BK546 := bB BK546 hb; replace HB := bS HB hb; (try clear hb); obtain ⟨hcz26_0, hcz26_1, hcz26_2, hfz26_0, hfz26_1, hfz26_2⟩ := bK3 (w := w25) BK545) | (go_at_call 21; (with_reducible refine (impl_InGroup.calls k a1_0 a1_1 false t548 _ A19.out).mono ?_); rintro e w27 ⟨rfl, hb⟩; replace BK544 := bB BK544 hb; replace BK545 := bB BK545 hb; replace BK546 := bB BK546 hb; replace HB := bS HB hb; (try clear hb)))
     go_meet
     case rel => exact ⟨_, (!t548), rS, H', ⟨by first | omega | exact Nat.le_refl _⟩, ⟨bP BK544⟩, ⟨bP BK545⟩, ⟨bP BK546⟩, ⟨bZ HB⟩⟩
    ·replace c18 := Bool.eq_false_iff.mpr c18
     subst c18
     rw [if_neg (show ¬ (false = true) by decide)] at H
     have H' := Aside0.mk H
     clear H
     obtain ⟨hnb28, hnc28⟩ := nB NB544_545
     obtain ⟨hnb29, hnc29⟩ := nB NB544_546
     obtain ⟨hcz30_0, hcz30_1, hcz30_2, hfz30_0, hfz30_1, hfz30_2⟩ := bK3 (w := w6) BK544
     obtain ⟨hnb31, hnc31⟩ := nB NB545_546
     obtain ⟨hcz32_0, hcz32_1, hcz32_2, hfz32_0, hfz32_1, hfz32_2⟩ := bK3 (w := w6) BK545
     go_wp2_with (first | (go_at_call 21; (with_reducible refine (impl_InGroup.calls k a0_0 a0_1 false false _ A17.out).mono ?_); rintro e w33 ⟨rfl, hb⟩; replace BK544 := bB BK544 hb; replace BK545 := bB BK545 hb; replace BK546 := bB BK546 hb; replace HB := bS HB hb; (try clear hb)))
     go_meet
     case rel => exact ⟨_, (true), rS, H', ⟨by first | omega | exact Nat.le_refl _⟩, ⟨bP BK544⟩, ⟨bP BK545⟩, ⟨bP BK546⟩, ⟨bZ HB⟩⟩
 case rest =>
  clear HC3
  try clear c1
  try clear c2
  try clear p2
  try clear c3
  try clear c6
  try clear c7
  try clear c8
  try clear c9
  try clear c11
  try clear c12
  try clear c13
  try clear c15
  try clear c18
  try clear c20
  try clear c21
  try clear c23
  try clear c28
  try clear c29
  try clear c31
  try clear hcz10_0
  try clear hcz10_1
  try clear hcz10_2
  try clear hcz14_0
  try clear hcz14_1
  try clear hcz14_2
  try clear hcz16_0
  try clear hcz16_1
  try clear hcz16_2
  try clear hcz22_0
  try clear hcz22_1
  try clear hcz22_2
  try clear hcz24_0
  try clear hcz24_1
  try clear hcz24_2
  try clear hcz26_0
  try clear hcz26_1
  try clear hcz26_2
  try clear hcz30_0
  try clear hcz30_1
  try clear hcz30_2
  try clear hcz32_0
  try clear hcz32_1
  try clear hcz32_2
  try clear hfz10_0
  try clear hfz10_1
  try clear hfz10_2
  try clear hfz14_0
  try clear hfz14_1
  try clear hfz14_2
  try clear hfz16_0
  try clear hfz16_1
  try clear hfz16_2
  try clear hfz22_0
  try clear hfz22_1
  try clear hfz22_2
  try clear hfz24_0
  try clear hfz24_1
  try clear hfz24_2
  try clear hfz26_0
  try clear hfz26_1
  try clear hfz26_2
  try clear hfz30_0
  try clear hfz30_1
  try clear hfz30_2
  try clear hfz32_0
  try clear hfz32_1
  try clear hfz32_2
  obtain ⟨kq, x21_2, rfl, HA, HJ2, BK544, BK545, BK546, HB⟩ := hcut
  cases kq with
  | zero => exact absurd HA.out (by simp [impl_Pairing.j0])
  | succ kj2 =>
   have H := HA.out
   clear HA
   simp only [impl_Pairing.j0] at H
   by_cases c34 : x21_2 = true
   ·subst c34
    rw [if_pos rfl] at H
    simp only [Option.some.injEq, Prod.mk.injEq] at H
    obtain ⟨rfl, rfl⟩ := H
    obtain ⟨hnb35, hnc35⟩ := nB NB546_544
    obtain ⟨hnb36, hnc36⟩ := nB NB546_545
    obtain ⟨hcz37_0, hcz37_1, hfz37_0, hfz37_1⟩ := bK2 (w := wc) BK546
    go_wp2
    refine rC gb546 75 #[.int .i64 1, .int .i64 0] (bU BK546) Tryz.underlying75 ?_
    exact ⟨rR, bZ HB⟩
   ·replace c34 := Bool.eq_false_iff.mpr c34
    subst c34
    rw [if_neg (show ¬ (false = true) by decide)] at H
    replace H := Option.bind_eq_some_iff.mp H
    obtain ⟨⟨t549, t550⟩, A380, H⟩ := H
    have A38 := Aside0.mk A380
    clear A380
    replace H := Option.bind_eq_some_iff.mp H
    obtain ⟨⟨t552, t553⟩, A390, H⟩ := H
    have A39 := Aside0.mk A390
    clear A390
    replace H := Option.bind_eq_some_iff.mp H
    obtain ⟨⟨t554, t555⟩, A400, H⟩ := H
    have A40 := Aside0.mk A400
    clear A400
    replace H := Option.bind_eq_some_iff.mp H
    obtain ⟨⟨t556, t557⟩, A410, H⟩ := H
    have A41 := Aside0.mk A410
    clear A410
    replace H := Option.bind_eq_some_iff.mp H
    obtain ⟨⟨t558, t559⟩, A420, H⟩ := H
    have A42 := Aside0.mk A420
    clear A420
    simp only [Option.some.injEq, Prod.mk.injEq] at H
    obtain ⟨rfl, rfl⟩ := H
    obtain ⟨hnb43, hnc43⟩ := nB NB544_545
    obtain ⟨hnb44, hnc44⟩ := nB NB544_546
    obtain ⟨hcz45_0, hcz45_1, hcz45_2, hfz45_0, hfz45_1, hfz45_2⟩ := bK3 (w := wc) BK544
    obtain ⟨hnb46, hnc46⟩ := nB NB545_546
    obtain ⟨hcz47_0, hcz47_1, hcz47_2, hfz47_0, hfz47_1, hfz47_2⟩ := bK3 (w := wc) BK545
    try go_wp2_with (first | (refine gC (some 25) Tryz.func102 #[.agg #[.int .i64 a0_0, .int .i64 a0_1, .bool a0_2], .agg #[.int .i64 a1_0, .int .i64 a1_1, .bool a1_2]] ?_; (with_reducible refine (impl_Miller.calls kj2 a0_0 a0_1 a0_2 a1_0 a1_1 a1_2 t549 t550 _ A38.out).mono ?_); rintro e w48 ⟨rfl, hb⟩; refine ⟨_, rfl, ?_⟩; replace BK544 := bB BK544 hb; replace BK545 := bB BK545 hb; replace BK546 := bB BK546 hb; replace HB := bS HB hb; (try clear hb)) | (refine gB 5 #[.int .i64 0, .int .i64 0] 75 ?_; intro gb551 hg w49 BK551 hb; have GW551 := bG HB hg; replace HB := bS HB hb; obtain ⟨NB544_551, NB551_544⟩ := bN BK544 hg; replace BK544 := bB BK544 hb; obtain ⟨NB545_551, NB551_545⟩ := bN BK545 hg; replace BK545 := bB BK545 hb; obtain ⟨NB546_551, NB551_546⟩ := bN BK546 hg; replace BK546 := bB BK546 hb; clear hb hg; obtain ⟨hnb50, hnc50⟩ := nB NB551_544; obtain ⟨hnb51, hnc51⟩ := nB NB551_545; obtain ⟨hnb52, hnc52⟩ := nB NB551_546; obtain ⟨hcz53_0, hcz53_1, hfz53_0, hfz53_1⟩ := bK2 (w := w49) BK551))
    obtain ⟨w54, hW_⟩ : ∃ W_ : World, W_ = ((w49.setCell ⟨gb551, 0, none⟩ (.int .i64 t549)).setCell ⟨gb551, 1, none⟩ (.int .i64 t550)) := ⟨_, rfl⟩
    replace BK544 := bW hW_ BK544
    replace BK545 := bW hW_ BK545
    replace BK546 := bW hW_ BK546
    replace BK551 := bX hW_ 75 #[.int .i64 t549, .int .i64 t550] BK551
    replace HB := zW hW_ HB
    rw [← hW_]
    clear hW_
    replace BK544 := Aside0.mk (blk_drew BK544.out)
    replace BK545 := Aside0.mk (blk_drew BK545.out)
    replace BK546 := Aside0.mk (blk_drew BK546.out)
    replace BK551 := Aside0.mk (blk_drew BK551.out)
    replace HB := Aside0.mk (below_drew1 HB.out)
    refine start_ (n := 7) (S := fun w' => SQ2 w' gb551 (.int .i64 t549) (.int .i64 t550)) (ds := []) #[false, false, false, false, false, false, false] (by kernel_rfl) rfl rfl (bT2 BK551) (fun hHeld => ?_)
    generalize w54.drew = w55 at BK544 BK545 BK546 BK551 HB hHeld ⊢
    refine tJ 0 (some 26) hHeld ?_
    refine tJ 2 (some 28) hHeld ?_
    refine one_ (i := 1) (N := some 27) #[true, true, true, false, false, false, false] rfl rfl (by kernel_rfl) (by decide) (fun K hK => ?_)
    refine gO Tryz.func105 #[.agg #[.int .i64 t549, .int .i64 t550]] ?_
    with_reducible refine (impl_TwoTurn.calls t549 t550 t552 t553 _ A39.out).mono ?_
    rintro e w56 ⟨rfl, hb⟩
    refine ⟨_, rfl, ?_⟩
    replace BK544 := bB BK544 hb
    replace BK545 := bB BK545 hb
    replace BK546 := bB BK546 hb
    replace BK551 := bB BK551 hb
    replace HB := bS HB hb
    (try clear hb)
    refine hK.out _ _ (bT2 BK551) (fun hHeld => ?_)
    clear hK K
    refine nO (some 27) ?_
    refine one_ (i := 3) (N := some 29) #[true, true, true, true, false, false, false] rfl rfl (by kernel_rfl) (by decide) (fun K hK => ?_)
    refine gO Tryz.func106 #[.agg #[.int .i64 t549, .int .i64 t550]] ?_
    with_reducible refine (impl_TwoInv.calls kj2 t549 t550 t554 t555 _ A40.out).mono ?_
    rintro e w57 ⟨rfl, hb⟩
    refine ⟨_, rfl, ?_⟩
    replace BK544 := bB BK544 hb
    replace BK545 := bB BK545 hb
    replace BK546 := bB BK546 hb
    replace BK551 := bB BK551 hb
    replace HB := bS HB hb
    (try clear hb)
    refine hK.out _ _ (bT2 BK551) (fun hHeld => ?_)
    clear hK K
    refine nO (some 29) ?_
    refine one_ (i := 4) (N := some 30) #[true, true, true, true, true, false, false] rfl rfl (by kernel_rfl) (by decide) (fun K hK => ?_)
    refine gO Tryz.func104 #[.agg #[.int .i64 t552, .int .i64 t553], .agg #[.int .i64 t554, .int .i64 t555]] ?_
    with_reducible refine (impl_TwoMul.calls t552 t553 t554 t555 t556 t557 _ A41.out).mono ?_
    rintro e w58 ⟨rfl, hb⟩
    refine ⟨_, rfl, ?_⟩
    replace BK544 := bB BK544 hb
    replace BK545 := bB BK545 hb
    replace BK546 := bB BK546 hb
    replace BK551 := bB BK551 hb
    replace HB := bS HB hb
    (try clear hb)
    refine hK.out _ _ (bT2 BK551) (fun hHeld => ?_)
    clear hK K
    refine nO (some 30) ?_
    refine one_ (i := 5) (N := some 31) #[true, true, true, true, true, true, false] rfl rfl (by kernel_rfl) (by decide) (fun K hK => ?_)
    refine gO Tryz.func103 #[.agg #[.int .i64 t556, .int .i64 t557], .int .i64 12] ?_
    with_reducible refine (impl_TwoPow.calls kj2 t556 t557 12 t558 t559 _ A42.out).mono ?_
    rintro e w59 ⟨rfl, hb⟩
    refine ⟨_, rfl, ?_⟩
    replace BK544 := bB BK544 hb
    replace BK545 := bB BK545 hb
    replace BK546 := bB BK546 hb
    replace BK551 := bB BK551 hb
    replace HB := bS HB hb
    (try clear hb)
    refine hK.out _ _ (bT2 BK551) (fun hHeld => ?_)
    clear hK K
    refine nO (some 31) ?_
    refine one_ (i := 6) (N := none) #[true, true, true, true, true, true, true] rfl rfl (by kernel_rfl) (by decide) (fun K hK => ?_)
    have hs60 : w59.cell? ⟨gb546, 0, none⟩ = some (.int .i64 0) := bc BK546 0
    have hfs60 := blk_frozen BK546.out 0
    have hns60_0 := NB544_546.out
    have hns60_1 := NB545_546.out
    have hns60_3 := NB551_546.out
    have hms60_0 := NB546_544.out
    have hms60_1 := NB546_545.out
    have hms60_3 := NB546_551.out
    have hs61 : w59.cell? ⟨gb546, 1, none⟩ = some (.int .i64 0) := bc BK546 1
    have hfs61 := blk_frozen BK546.out 1
    have hns61_0 := NB544_546.out
    have hns61_1 := NB545_546.out
    have hns61_3 := NB551_546.out
    have hms61_0 := NB546_544.out
    have hms61_1 := NB546_545.out
    have hms61_3 := NB546_551.out
    refine skip_ (w1 := ?_) (by rfl) rfl ?_ ?_
    rotate_left
    ·go_simp
     rfl
    refine hK.out _ _ ⟨((cell_far (p := ⟨gb546, _, none⟩) NB551_546.out _).trans (((cell_far (p := ⟨gb546, _, none⟩) NB551_546.out _).trans (hHeld.1)))), ((cell_far (p := ⟨gb546, _, none⟩) NB551_546.out _).trans (((cell_far (p := ⟨gb546, _, none⟩) NB551_546.out _).trans (hHeld.2))))⟩ (fun hHeld => ?_)
    clear hK K
    refine done_ (by kernel_rfl) ?_
    try go_wp2
    refine rC gb546 75 #[.int .i64 t558, .int .i64 t559] (bU BK546) Tryz.underlying75 ?_
    exact ⟨rR, bZ HB⟩
end Go.Proofs.YtkdmplfldfagnaaGreatDoor.Pf
end
section
namespace Go.Proofs.YtkdmplfldfagnaaGreatDoor.Pf
open Go.RowKit Go.Proofs.YtkdmplfldfagnaaGreatDoorW.PrintWords Go.Proofs.YtkdmplfldfagnaaGreatDoorW.PrintLast Go.Proofs.YtkdmplfldfagnaaGreatDoorW.PrintMore
attribute [local go_sem] max2_int min2_int max_two min_two max_three min_three max_four min_four   -- for this text's walks alone
set_option linter.unusedVariables false
set_option linter.unusedSimpArgs false
attribute [local go_sem high] eqA75
def impl_SigOk.j0 : Nat → ByteArray → Bool → Int → Int → Bool → Int → Int → Bool → Option (Bool)
 | 0, _, _, _, _, _, _, _, _ => none
 | k + 1, x1, x22, x561000, x561001, x561002, x562000, x562001, x562002 => if x22 = true then (some false) else ((impl_Base.f).bind fun bt564 => ((impl_Pairing.f k x562000 x562001 x562002 bt564.1 bt564.2.1 bt564.2.2).bind fun bt567 => ((impl_HashPoint.f k x1).bind fun bt569 => ((impl_Pairing.f k bt569.1 bt569.2.1 bt569.2.2 x561000 x561001 x561002).bind fun bt572 => (some (bt567.1 == bt572.1 && (bt567.2 == bt572.2)))))))
def impl_SigOk.f (k : Nat) (a0_0 : Int) (a0_1 : Int) (a0_2 : Bool) (a1 : ByteArray) (a2_0 : Int) (a2_1 : Int) (a2_2 : Bool) : Option (Bool) := if a0_2 = true then (impl_SigOk.j0 k a1 true a0_0 a0_1 a0_2 a2_0 a2_1 a2_2) else (if a2_2 = true then (impl_SigOk.j0 k a1 true a0_0 a0_1 a0_2 a2_0 a2_1 a2_2) else ((impl_InGroup.f k a0_0 a0_1 a0_2).bind fun t562 => (if t562 = true then ((impl_InGroup.f k a2_0 a2_1 a2_2).bind fun t563 => (impl_SigOk.j0 k a1 (!t563) a0_0 a0_1 a0_2 a2_0 a2_1 a2_2)) else (impl_SigOk.j0 k a1 true a0_0 a0_1 a0_2 a2_0 a2_1 a2_2))))
def impl_SigOk.T3 : Bool × List (List Nat × List Nat) := (true, [([], []), ([], []), ([0, 1, 1], [0, 1]), ([], []), ([3, 2], [3]), ([], []), ([4, 5, 4], [4, 5]), ([2, 6], [2, 6]), ([7, 6, 0, 1, 2, 3, 4, 5, 6, 7], [7])])
def impl_SigOk.B3 : List Nat := [0, 0, 3, 0, 15, 0, 63, 127, 255]
theorem impl_SigOk.tab3 : rtab .any (opsOf Tryz.f19 3) = impl_SigOk.T3 := by kernel_rfl
theorem impl_SigOk.bits3 : waitsOk impl_SigOk.T3.2 impl_SigOk.B3 = true := by kernel_rfl
set_option maxHeartbeats 8000000 in
set_option maxRecDepth 100000 in
theorem impl_SigOk.calls (k : Nat) (a0_0 : Int) (a0_1 : Int) (a0_2 : Bool) (a1 : ByteArray) (a2_0 : Int) (a2_1 : Int) (a2_2 : Bool) (r : Bool) (w : World) (hT : Kp.Tab w) (h : impl_SigOk.f k a0_0 a0_1 a0_2 a1 a2_0 a2_1 a2_2 = some r) :
  Calls Tryz.prog 19 #[.agg #[.int .i64 a0_0, .int .i64 a0_1, .bool a0_2], .string a1, .agg #[.int .i64 a2_0, .int .i64 a2_1, .bool a2_2]] w fun e w' => e = .returned (.bool r) ∧ Below w.heap.size w w' := by
 have HT := Aside0.mk hT
 clear hT
 have hu28 := Tryz.underlying28
 have HB := Aside0.mk (Below.refl w.heap.size w)
 have H : (if a0_2 = true then (impl_SigOk.j0 k a1 true a0_0 a0_1 a0_2 a2_0 a2_1 a2_2) else (if a2_2 = true then (impl_SigOk.j0 k a1 true a0_0 a0_1 a0_2 a2_0 a2_1 a2_2) else ((impl_InGroup.f k a0_0 a0_1 a0_2).bind fun t562 => (if t562 = true then ((impl_InGroup.f k a2_0 a2_1 a2_2).bind fun t563 => (impl_SigOk.j0 k a1 (!t563) a0_0 a0_1 a0_2 a2_0 a2_1 a2_2)) else (impl_SigOk.j0 k a1 true a0_0 a0_1 a0_2 a2_0 a2_1 a2_2))))) = some r := h
 clear h
 have HC4 := Aside0.mk H
 clear H
 go_enter Tryz.func19, Tryz.ntmps19
 go_upto_region 1 with (first | (refine gB 3 #[.int .i64 a0_0, .int .i64 a0_1, .bool a0_2] 28 ?_; intro gb560 hg w5 BK560 hb; have GW560 := bG HB hg; replace HB := bS HB hb; clear hb hg) | (refine gB 5 #[.int .i64 a2_0, .int .i64 a2_1, .bool a2_2] 28 ?_; intro gb561 hg w6 BK561 hb; have GW561 := bG HB hg; replace HB := bS HB hb; obtain ⟨NB560_561, NB561_560⟩ := bN BK560 hg; replace BK560 := bB BK560 hb; clear hb hg))
 (try simp only [Act.put, List.setIfInBounds_toArray, List.set_cons_zero, List.set_cons_succ])
 go_cut [22] (fun v22 wc => ∃ (kq : Nat) (x22_3 : Bool), v22 = .bool x22_3 ∧ Aside0 (impl_SigOk.j0 kq a1 x22_3 a0_0 a0_1 a0_2 a2_0 a2_1 a2_2 = some r) ∧ Aside0 (kq ≤ k) ∧ Aside0 (wc.heap[gb560]? = some (.cells #[.int .i64 a0_0, .int .i64 a0_1, .bool a0_2] 28 (0, 0))) ∧ Aside0 (wc.heap[gb561]? = some (.cells #[.int .i64 a2_0, .int .i64 a2_1, .bool a2_2] 28 (0, 0))) ∧ Aside0 (Below w.heap.size w wc))
 case first =>
  have H := HC4.out
  clear HC4
  by_cases c7 : a0_2 = true
  ·subst c7
   rw [if_pos rfl] at H
   have H' := Aside0.mk H
   clear H
   obtain ⟨hnb8, hnc8⟩ := nB NB560_561
   obtain ⟨hcz9_0, hcz9_1, hcz9_2, hfz9_0, hfz9_1, hfz9_2⟩ := bK3 (w := w6) BK560
   go_wp2
   go_meet
   case rel => exact ⟨_, (true), rS, H', ⟨by first | omega | exact Nat.le_refl _⟩, ⟨bP BK560⟩, ⟨bP BK561⟩, ⟨bZ HB⟩⟩
  ·replace c7 := Bool.eq_false_iff.mpr c7
   subst c7
   rw [if_neg (show ¬ (false = true) by decide)] at H
   by_cases c10 : a2_2 = true
   ·subst c10
    rw [if_pos rfl] at H
    have H' := Aside0.mk H
    clear H
    obtain ⟨hnb11, hnc11⟩ := nB NB560_561
    obtain ⟨hcz12_0, hcz12_1, hcz12_2, hfz12_0, hfz12_1, hfz12_2⟩ := bK3 (w := w6) BK560
    obtain ⟨hcz13_0, hcz13_1, hcz13_2, hfz13_0, hfz13_1, hfz13_2⟩ := bK3 (w := w6) BK561
    go_wp2
    go_meet
    case rel => exact ⟨_, (true), rS, H', ⟨by first | omega | exact Nat.le_refl _⟩, ⟨bP BK560⟩, ⟨bP BK561⟩, ⟨bZ HB⟩⟩
   ·replace c10 := Bool.eq_false_iff.mpr c10
    subst c10
    rw [if_neg (show ¬ (false = true) by decide)] at H
    replace H := Option.bind_eq_some_iff.mp H
    obtain ⟨t562, A140, H⟩ := H
    have A14 := Aside0.mk A140
    clear A140
    by_cases c15 : t562 = true
    ·subst c15
     rw [if_pos rfl] at H
     replace H := Option.bind_eq_some_iff.mp H
     obtain ⟨t563, A160, H⟩ := H
     have A16 := Aside0.mk A160
     clear A160
     have H' := Aside0.mk H
     clear H
     obtain ⟨hnb17, hnc17⟩ := nB NB560_561
     obtain ⟨hcz18_0, hcz18_1, hcz18_2, hfz18_0, hfz18_1, hfz18_2⟩ := bK3 (w := w6) BK560
     obtain ⟨hcz19_0, hcz19_1, hcz19_2, hfz19_0, hfz19_1, hfz19_2⟩ := bK3 (w := w6) BK561
     go_wp2_with (first | (go_at_call 21; (with_reducible refine (impl_InGroup.calls k a0_0 a0_1 false true _ A14.out).mono ?_); rintro e w20 ⟨rfl, hb⟩; replace BK560 := bB BK560 hb; replace BK561 := bB BK561 hb; replace HB := bS HB hb; (try clear hb); obtain ⟨hcz21_0, hcz21_1, hcz21_2, hfz21_0, hfz21_1, hfz21_2⟩ := bK3 (w := w20) BK561) | (go_at_call 21; (with_reducible refine (impl_InGroup.calls k a2_0 a2_1 false t563 _ A16.out).mono ?_); rintro e w22 ⟨rfl, hb⟩; replace BK560 := bB BK560 hb; replace BK561 := bB BK561 hb; replace HB := bS HB hb; (try clear hb)))
     go_meet
     case rel => exact ⟨_, (!t563), rS, H', ⟨by first | omega | exact Nat.le_refl _⟩, ⟨bP BK560⟩, ⟨bP BK561⟩, ⟨bZ HB⟩⟩
    ·replace c15 := Bool.eq_false_iff.mpr c15
     subst c15
     rw [if_neg (show ¬ (false = true) by decide)] at H
     have H' := Aside0.mk H
     clear H
     obtain ⟨hnb23, hnc23⟩ := nB NB560_561
     obtain ⟨hcz24_0, hcz24_1, hcz24_2, hfz24_0, hfz24_1, hfz24_2⟩ := bK3 (w := w6) BK560
     obtain ⟨hcz25_0, hcz25_1, hcz25_2, hfz25_0, hfz25_1, hfz25_2⟩ := bK3 (w := w6) BK561
     go_wp2_with (first | (go_at_call 21; (with_reducible refine (impl_InGroup.calls k a0_0 a0_1 false false _ A14.out).mono ?_); rintro e w26 ⟨rfl, hb⟩; replace BK560 := bB BK560 hb; replace BK561 := bB BK561 hb; replace HB := bS HB hb; (try clear hb)))
     go_meet
     case rel => exact ⟨_, (true), rS, H', ⟨by first | omega | exact Nat.le_refl _⟩, ⟨bP BK560⟩, ⟨bP BK561⟩, ⟨bZ HB⟩⟩
 case rest =>
  clear HC4
  try clear c1
  try clear c2
  try clear p2
  try clear c7
  try clear c8
  try clear c10
  try clear c11
  try clear c15
  try clear c17
  try clear c19
  try clear c23
  try clear hcz12_0
  try clear hcz12_1
  try clear hcz12_2
  try clear hcz13_0
  try clear hcz13_1
  try clear hcz13_2
  try clear hcz18_0
  try clear hcz18_1
  try clear hcz18_2
  try clear hcz19_0
  try clear hcz19_1
  try clear hcz19_2
  try clear hcz21_0
  try clear hcz21_1
  try clear hcz21_2
  try clear hcz24_0
  try clear hcz24_1
  try clear hcz24_2
  try clear hcz25_0
  try clear hcz25_1
  try clear hcz25_2
  try clear hcz9_0
  try clear hcz9_1
  try clear hcz9_2
  try clear hfz12_0
  try clear hfz12_1
  try clear hfz12_2
  try clear hfz13_0
  try clear hfz13_1
  try clear hfz13_2
  try clear hfz18_0
  try clear hfz18_1
  try clear hfz18_2
  try clear hfz19_0
  try clear hfz19_1
  try clear hfz19_2
  try clear hfz21_0
  try clear hfz21_1
  try clear hfz21_2
  try clear hfz24_0
  try clear hfz24_1
  try clear hfz24_2
  try clear hfz25_0
  try clear hfz25_1
  try clear hfz25_2
  try clear hfz9_0
  try clear hfz9_1
  try clear hfz9_2
  obtain ⟨kq, x22_3, rfl, HA, HJ3, BK560, BK561, HB⟩ := hcut
  cases kq with
  | zero => exact absurd HA.out (by simp [impl_SigOk.j0])
  | succ kj3 =>
   have H := HA.out
   clear HA
   simp only [impl_SigOk.j0] at H
   by_cases c27 : x22_3 = true
   ·subst c27
    rw [if_pos rfl] at H
    obtain rfl := Option.some.inj H
    go_wp2
    go_ret
    exact ⟨rR, bZ HB⟩
   ·replace c27 := Bool.eq_false_iff.mpr c27
    subst c27
    rw [if_neg (show ¬ (false = true) by decide)] at H
    replace H := Option.bind_eq_some_iff.mp H
    obtain ⟨⟨t564, t565, t566⟩, A280, H⟩ := H
    have A28 := Aside0.mk A280
    clear A280
    replace H := Option.bind_eq_some_iff.mp H
    obtain ⟨⟨t567, t568⟩, A290, H⟩ := H
    have A29 := Aside0.mk A290
    clear A290
    replace H := Option.bind_eq_some_iff.mp H
    obtain ⟨⟨t569, t570, t571⟩, A300, H⟩ := H
    have A30 := Aside0.mk A300
    clear A300
    replace H := Option.bind_eq_some_iff.mp H
    obtain ⟨⟨t572, t573⟩, A310, H⟩ := H
    have A31 := Aside0.mk A310
    clear A310
    obtain rfl := Option.some.inj H
    try go_wp2
    replace BK560 := Aside0.mk (blk_drew BK560.out)
    replace BK561 := Aside0.mk (blk_drew BK561.out)
    replace HB := Aside0.mk (below_drew1 HB.out)
    refine start_ (n := 9) (S := fun w' => SP3 w' gb561 (.int .i64 a2_0) (.int .i64 a2_1) (.bool a2_2) (SQ3 w' gb560 (.int .i64 a0_0) (.int .i64 a0_1) (.bool a0_2))) (ds := []) #[false, false, false, false, false, false, false, false, false] (by kernel_rfl) rfl rfl (bS3 BK561 (bT3 BK560)) (fun hHeld => ?_); refine with_tabW impl_SigOk.tab3 impl_SigOk.bits3 (fun HT_ HW_ => ?_)
    generalize wc.drew = w32 at BK560 BK561 HB hHeld ⊢
    refine pI 3 (some 26) HT_.out ?_
    refine tI6 0 (some 23) HT_.out HW_.out hHeld ?_
    refine tI6 5 (some 28) HT_.out HW_.out hHeld ?_
    refine oI 1 (some 24) HT_.out (fun K hK => ?_)
    refine gO Tryz.func20 #[] ?_
    with_reducible refine (impl_Base.calls  t564 t565 t566 _ A28.out).mono ?_
    rintro e w33 ⟨rfl, hb⟩
    refine ⟨_, rfl, ?_⟩
    replace BK560 := bB BK560 hb
    replace BK561 := bB BK561 hb
    replace HB := bS HB hb
    (try clear hb)
    refine hK.out _ _ (bS3 BK561 (bT3 BK560)) (fun hHeld => ?_)
    clear hK K
    refine nO (some 24) ?_
    refine oI 2 (some 25) HT_.out (fun K hK => ?_)
    refine gO Tryz.func60 #[.agg #[.int .i64 a2_0, .int .i64 a2_1, .bool a2_2], .agg #[.int .i64 t564, .int .i64 t565, .bool t566]] ?_
    with_reducible refine (impl_Pairing.calls kj3 a2_0 a2_1 a2_2 t564 t565 t566 t567 t568 _ A29.out).mono ?_
    rintro e w34 ⟨rfl, hb⟩
    refine ⟨_, rfl, ?_⟩
    replace BK560 := bB BK560 hb
    replace BK561 := bB BK561 hb
    replace HB := bS HB hb
    (try clear hb)
    refine hK.out _ _ (bS3 BK561 (bT3 BK560)) (fun hHeld => ?_)
    clear hK K
    refine nO (some 25) ?_
    refine oI 4 (some 27) HT_.out (fun K hK => ?_)
    refine gO Tryz.func17 #[.string a1] ?_
    with_reducible refine (impl_HashPoint.calls kj3 a1 t569 t570 t571 _ (Kp.Tab.below HT.out (bZ HB)) A30.out).mono ?_
    rintro e w35 ⟨rfl, hb⟩
    refine ⟨_, rfl, ?_⟩
    replace BK560 := bB BK560 hb
    replace BK561 := bB BK561 hb
    replace HB := bS HB hb
    (try clear hb)
    refine hK.out _ _ (bS3 BK561 (bT3 BK560)) (fun hHeld => ?_)
    clear hK K
    refine nO (some 27) ?_
    refine oI 6 (some 29) HT_.out (fun K hK => ?_)
    refine gO Tryz.func60 #[.agg #[.int .i64 t569, .int .i64 t570, .bool t571], .agg #[.int .i64 a0_0, .int .i64 a0_1, .bool a0_2]] ?_
    with_reducible refine (impl_Pairing.calls kj3 t569 t570 t571 a0_0 a0_1 a0_2 t572 t573 _ A31.out).mono ?_
    rintro e w36 ⟨rfl, hb⟩
    refine ⟨_, rfl, ?_⟩
    replace BK560 := bB BK560 hb
    replace BK561 := bB BK561 hb
    replace HB := bS HB hb
    (try clear hb)
    refine hK.out _ _ (bS3 BK561 (bT3 BK560)) (fun hHeld => ?_)
    clear hK K
    refine nO (some 29) ?_
    refine pI 7 (some 30) HT_.out ?_
    refine pI 8 (some 6) HT_.out ?_
    refine done_ (done_of HT_.out (by kernel_rfl)) ?_
    try go_wp2
    go_ret
    exact ⟨rR, bZ HB⟩
end Go.Proofs.YtkdmplfldfagnaaGreatDoor.Pf
end
section
namespace Go.Proofs.YtkdmplfldfagnaaGreatDoor.Pf
open Go.RowKit Go.Proofs.YtkdmplfldfagnaaGreatDoorW.PrintWords Go.Proofs.YtkdmplfldfagnaaGreatDoorW.PrintLast Go.Proofs.YtkdmplfldfagnaaGreatDoorW.PrintMore
attribute [local go_sem] max2_int min2_int max_two min_two max_three min_three max_four min_four   -- for this text's walks alone
set_option linter.unusedVariables false
set_option linter.unusedSimpArgs false
def spec_InGroup.f (k : Nat) (a0_0 : Int) (a0_1 : Int) (a0_2 : Bool) : Option (Bool) := (spec_PointOk.f a0_0 a0_1 a0_2).bind fun t575 => (if t575 = true then ((spec_PointTimes.f k 1009 a0_0 a0_1 a0_2).bind fun bt576 => (some bt576.2.2)) else (some false))
set_option maxHeartbeats 8000000 in
set_option maxRecDepth 100000 in
theorem spec_InGroup.calls (k : Nat) (a0_0 : Int) (a0_1 : Int) (a0_2 : Bool) (r : Bool) (w : World) (h : spec_InGroup.f k a0_0 a0_1 a0_2 = some r) :
  Calls Tryz.prog 67 #[.agg #[.int .i64 a0_0, .int .i64 a0_1, .bool a0_2]] w fun e w' => e = .returned (.bool r) ∧ Below w.heap.size w w' := by
 have hu28 := Tryz.underlying28
 have hfd28_0 : ∀ (x0 : Int) (x1 : Int) (x2 : Bool) (w_ : World), (Instr.field 28 (.agg #[.int .i64 x0, .int .i64 x1, .bool x2]) 0).run Tryz.prog w_ = .ok (.int .i64 x0) w_ := fun _ _ _ _ => by kernel_rfl
 have hfd28_1 : ∀ (x0 : Int) (x1 : Int) (x2 : Bool) (w_ : World), (Instr.field 28 (.agg #[.int .i64 x0, .int .i64 x1, .bool x2]) 1).run Tryz.prog w_ = .ok (.int .i64 x1) w_ := fun _ _ _ _ => by kernel_rfl
 have hfd28_2 : ∀ (x0 : Int) (x1 : Int) (x2 : Bool) (w_ : World), (Instr.field 28 (.agg #[.int .i64 x0, .int .i64 x1, .bool x2]) 2).run Tryz.prog w_ = .ok (.bool x2) w_ := fun _ _ _ _ => by kernel_rfl
 have HB := Aside0.mk (Below.refl w.heap.size w)
 have H : ((spec_PointOk.f a0_0 a0_1 a0_2).bind fun t575 => (if t575 = true then ((spec_PointTimes.f k 1009 a0_0 a0_1 a0_2).bind fun bt576 => (some bt576.2.2)) else (some false))) = some r := h
 clear h
 replace H := Option.bind_eq_some_iff.mp H
 obtain ⟨t575, A20, H⟩ := H
 have A2 := Aside0.mk A20
 clear A20
 by_cases c3 : t575 = true
 ·subst c3
  rw [if_pos rfl] at H
  replace H := Option.bind_eq_some_iff.mp H
  obtain ⟨⟨t576, t577, t578⟩, A40, H⟩ := H
  have A4 := Aside0.mk A40
  clear A40
  obtain rfl := Option.some.inj H
  go_enter Tryz.func67, Tryz.ntmps67
  go_wp2_with (first | (refine gB 1 #[.int .i64 a0_0, .int .i64 a0_1, .bool a0_2] 28 ?_; intro gb574 hg w5 BK574 hb; have GW574 := bG HB hg; replace HB := bS HB hb; clear hb hg; obtain ⟨hcz6_0, hcz6_1, hcz6_2, hfz6_0, hfz6_1, hfz6_2⟩ := bK3 (w := w5) BK574) | (refine gC (some 4) Tryz.func115 #[.agg #[.int .i64 a0_0, .int .i64 a0_1, .bool a0_2]] ?_; (with_reducible refine (spec_PointOk.calls a0_0 a0_1 a0_2 true _ A2.out).mono ?_); rintro e w7 ⟨rfl, hb⟩; refine ⟨_, rfl, ?_⟩; replace BK574 := bB BK574 hb; replace HB := bS HB hb; (try clear hb); obtain ⟨hcz8_0, hcz8_1, hcz8_2, hfz8_0, hfz8_1, hfz8_2⟩ := bK3 (w := w7) BK574) | (go_at_call 65; (with_reducible refine (spec_PointTimes.calls k 1009 a0_0 a0_1 a0_2 t576 t577 t578 _ A4.out).mono ?_); rintro e w9 ⟨rfl, hb⟩; replace BK574 := bB BK574 hb; replace HB := bS HB hb; (try clear hb)))
  go_ret
  exact ⟨rR, bZ HB⟩
 ·replace c3 := Bool.eq_false_iff.mpr c3
  subst c3
  rw [if_neg (show ¬ (false = true) by decide)] at H
  obtain rfl := Option.some.inj H
  go_enter Tryz.func67, Tryz.ntmps67
  go_wp2_with (first | (refine gB 1 #[.int .i64 a0_0, .int .i64 a0_1, .bool a0_2] 28 ?_; intro gb574 hg w10 BK574 hb; have GW574 := bG HB hg; replace HB := bS HB hb; clear hb hg; obtain ⟨hcz11_0, hcz11_1, hcz11_2, hfz11_0, hfz11_1, hfz11_2⟩ := bK3 (w := w10) BK574) | (refine gC (some 4) Tryz.func115 #[.agg #[.int .i64 a0_0, .int .i64 a0_1, .bool a0_2]] ?_; (with_reducible refine (spec_PointOk.calls a0_0 a0_1 a0_2 false _ A2.out).mono ?_); rintro e w12 ⟨rfl, hb⟩; refine ⟨_, rfl, ?_⟩; replace BK574 := bB BK574 hb; replace HB := bS HB hb; (try clear hb)))
  go_ret
  exact ⟨rR, bZ HB⟩
def spec_TwoMul.f (a0_0 : Int) (a0_1 : Int) (a1_0 : Int) (a1_1 : Int) : Option (Int × Int) := (spec_FpMul.f a0_0 a1_0).bind fun t593 => ((spec_FpMul.f a0_1 a1_1).bind fun t594 => ((spec_FpSub.f t593 t594).bind fun t595 => ((spec_FpMul.f a0_0 a1_1).bind fun t596 => ((spec_FpMul.f a0_1 a1_0).bind fun t597 => ((spec_FpAdd.f t596 t597).bind fun t598 => (some (t595, t598)))))))
def spec_TwoMul.T1 : Bool × List (List Nat × List Nat) := (true, [([], []), ([0], [0]), ([], []), ([2], [2]), ([1, 3], [1, 3]), ([], []), ([5], [5]), ([], []), ([7], [7]), ([6, 8, 4], [6, 8]), ([4, 9, 9], [4, 9]), ([], []), ([11], [11]), ([], []), ([13], [13]), ([12, 14, 10], [12, 14]), ([], []), ([16], [16]), ([], []), ([18], [18]), ([17, 19, 15], [17, 19]), ([15, 20, 20], [15, 20]), ([10, 21], [10, 21]), ([22, 21, 0, 1, 2, 3, 4, 5, 6, 7, 8, 9, 10, 11, 12, 13, 14, 15, 16, 17, 18, 19, 20, 21, 22], [22])])
def spec_TwoMul.B1 : List Nat := [0, 1, 0, 4, 15, 0, 32, 0, 128, 511, 1023, 0, 2048, 0, 8192, 32767, 0, 65536, 0, 262144, 1048575, 2097151, 4194303, 8388607]
theorem spec_TwoMul.tab1 : rtab .any (opsOf Tryz.f120 1) = spec_TwoMul.T1 := by kernel_rfl
theorem spec_TwoMul.bits1 : waitsOk spec_TwoMul.T1.2 spec_TwoMul.B1 = true := by kernel_rfl
set_option maxHeartbeats 8000000 in
set_option maxRecDepth 100000 in
theorem spec_TwoMul.calls (a0_0 : Int) (a0_1 : Int) (a1_0 : Int) (a1_1 : Int) (r1 : Int) (r2 : Int) (w : World) (h : spec_TwoMul.f a0_0 a0_1 a1_0 a1_1 = some (r1, r2)) :
  Calls Tryz.prog 120 #[.agg #[.int .i64 a0_0, .int .i64 a0_1], .agg #[.int .i64 a1_0, .int .i64 a1_1]] w fun e w' => e = .returned (.agg #[.int .i64 r1, .int .i64 r2]) ∧ Below w.heap.size w w' := by
 have hu75 := Tryz.underlying75
 have HB := Aside0.mk (Below.refl w.heap.size w)
 have H : ((spec_FpMul.f a0_0 a1_0).bind fun t593 => ((spec_FpMul.f a0_1 a1_1).bind fun t594 => ((spec_FpSub.f t593 t594).bind fun t595 => ((spec_FpMul.f a0_0 a1_1).bind fun t596 => ((spec_FpMul.f a0_1 a1_0).bind fun t597 => ((spec_FpAdd.f t596 t597).bind fun t598 => (some (t595, t598)))))))) = some (r1, r2) := h
 clear h
 replace H := Option.bind_eq_some_iff.mp H
 obtain ⟨t593, A30, H⟩ := H
 have A3 := Aside0.mk A30
 clear A30
 replace H := Option.bind_eq_some_iff.mp H
 obtain ⟨t594, A40, H⟩ := H
 have A4 := Aside0.mk A40
 clear A40
 replace H := Option.bind_eq_some_iff.mp H
 obtain ⟨t595, A50, H⟩ := H
 have A5 := Aside0.mk A50
 clear A50
 replace H := Option.bind_eq_some_iff.mp H
 obtain ⟨t596, A60, H⟩ := H
 have A6 := Aside0.mk A60
 clear A60
 replace H := Option.bind_eq_some_iff.mp H
 obtain ⟨t597, A70, H⟩ := H
 have A7 := Aside0.mk A70
 clear A70
 replace H := Option.bind_eq_some_iff.mp H
 obtain ⟨t598, A80, H⟩ := H
 have A8 := Aside0.mk A80
 clear A80
 simp only [Option.some.injEq, Prod.mk.injEq] at H
 obtain ⟨rfl, rfl⟩ := H
 go_enter Tryz.func120, Tryz.ntmps120
 try go_wp2_with (first | (refine gB 2 #[.int .i64 a0_0, .int .i64 a0_1] 75 ?_; intro gb590 hg w9 BK590 hb; have GW590 := bG HB hg; replace HB := bS HB hb; clear hb hg) | (refine gB 3 #[.int .i64 a1_0, .int .i64 a1_1] 75 ?_; intro gb591 hg w10 BK591 hb; have GW591 := bG HB hg; replace HB := bS HB hb; obtain ⟨NB590_591, NB591_590⟩ := bN BK590 hg; replace BK590 := bB BK590 hb; clear hb hg) | (refine gB 4 #[.int .i64 0, .int .i64 0] 75 ?_; intro gb592 hg w11 BK592 hb; have GW592 := bG HB hg; replace HB := bS HB hb; obtain ⟨NB590_592, NB592_590⟩ := bN BK590 hg; replace BK590 := bB BK590 hb; obtain ⟨NB591_592, NB592_591⟩ := bN BK591 hg; replace BK591 := bB BK591 hb; clear hb hg))
 replace BK590 := Aside0.mk (blk_drew BK590.out)
 replace BK591 := Aside0.mk (blk_drew BK591.out)
 replace BK592 := Aside0.mk (blk_drew BK592.out)
 replace HB := Aside0.mk (below_drew1 HB.out)
 refine start_ (n := 24) (S := fun w' => SP2 w' gb590 (.int .i64 a0_0) (.int .i64 a0_1) (SQ2 w' gb591 (.int .i64 a1_0) (.int .i64 a1_1))) (ds := []) #[false, false, false, false, false, false, false, false, false, false, false, false, false, false, false, false, false, false, false, false, false, false, false, false] (by kernel_rfl) rfl rfl (bS2 BK590 (bT2 BK591)) (fun hHeld => ?_); refine with_tabW spec_TwoMul.tab1 spec_TwoMul.bits1 (fun HT_ HW_ => ?_)
 generalize w11.drew = w12 at BK590 BK591 BK592 HB hHeld ⊢
 refine pI 0 (some 5) HT_.out ?_
 refine pI 2 (some 7) HT_.out ?_
 refine pI 5 (some 10) HT_.out ?_
 refine pI 7 (some 12) HT_.out ?_
 refine pI 11 (some 16) HT_.out ?_
 refine pI 13 (some 18) HT_.out ?_
 refine pI 16 (some 21) HT_.out ?_
 refine pI 18 (some 23) HT_.out ?_
 refine tI4 1 (some 6) HT_.out HW_.out hHeld ?_
 refine tI4 3 (some 8) HT_.out HW_.out hHeld ?_
 refine tI4 6 (some 11) HT_.out HW_.out hHeld ?_
 refine tI4 8 (some 13) HT_.out HW_.out hHeld ?_
 refine tI4 12 (some 17) HT_.out HW_.out hHeld ?_
 refine tI4 14 (some 19) HT_.out HW_.out hHeld ?_
 refine tI4 17 (some 22) HT_.out HW_.out hHeld ?_
 refine tI4 19 (some 24) HT_.out HW_.out hHeld ?_
 refine oI 4 (some 9) HT_.out (fun K hK => ?_)
 refine gO Tryz.func112 #[.int .i64 a0_0, .int .i64 a1_0] ?_
 with_reducible refine (spec_FpMul.calls a0_0 a1_0 t593 _ A3.out).mono ?_
 rintro e w' ⟨rfl, ⟨nd, rfl⟩⟩
 refine ⟨_, rfl, ?_⟩
 refine hK.out _ _ (bS2 BK590 (bT2 BK591)) (fun hHeld => ?_)
 clear hK K
 refine nO (some 9) ?_
 refine oI 9 (some 14) HT_.out (fun K hK => ?_)
 refine gO Tryz.func112 #[.int .i64 a0_1, .int .i64 a1_1] ?_
 with_reducible refine (spec_FpMul.calls a0_1 a1_1 t594 _ A4.out).mono ?_
 rintro e w' ⟨rfl, ⟨nd, rfl⟩⟩
 refine ⟨_, rfl, ?_⟩
 refine hK.out _ _ (bS2 BK590 (bT2 BK591)) (fun hHeld => ?_)
 clear hK K
 refine nO (some 14) ?_
 refine oI 10 (some 15) HT_.out (fun K hK => ?_)
 refine gO Tryz.func113 #[.int .i64 t593, .int .i64 t594] ?_
 with_reducible refine (spec_FpSub.calls t593 t594 t595 _ A5.out).mono ?_
 rintro e w' ⟨rfl, ⟨nd, rfl⟩⟩
 refine ⟨_, rfl, ?_⟩
 refine hK.out _ _ (bS2 BK590 (bT2 BK591)) (fun hHeld => ?_)
 clear hK K
 refine nO (some 15) ?_
 refine oI 15 (some 20) HT_.out (fun K hK => ?_)
 refine gO Tryz.func112 #[.int .i64 a0_0, .int .i64 a1_1] ?_
 with_reducible refine (spec_FpMul.calls a0_0 a1_1 t596 _ A6.out).mono ?_
 rintro e w' ⟨rfl, ⟨nd, rfl⟩⟩
 refine ⟨_, rfl, ?_⟩
 refine hK.out _ _ (bS2 BK590 (bT2 BK591)) (fun hHeld => ?_)
 clear hK K
 refine nO (some 20) ?_
 refine oI 20 (some 25) HT_.out (fun K hK => ?_)
 refine gO Tryz.func112 #[.int .i64 a0_1, .int .i64 a1_0] ?_
 with_reducible refine (spec_FpMul.calls a0_1 a1_0 t597 _ A7.out).mono ?_
 rintro e w' ⟨rfl, ⟨nd, rfl⟩⟩
 refine ⟨_, rfl, ?_⟩
 refine hK.out _ _ (bS2 BK590 (bT2 BK591)) (fun hHeld => ?_)
 clear hK K
 refine nO (some 25) ?_
 refine oI 21 (some 26) HT_.out (fun K hK => ?_)
 refine gO Tryz.func114 #[.int .i64 t596, .int .i64 t597] ?_
 with_reducible refine (spec_FpAdd.calls t596 t597 t598 _ A8.out).mono ?_
 rintro e w' ⟨rfl, ⟨nd, rfl⟩⟩
 refine ⟨_, rfl, ?_⟩
 refine hK.out _ _ (bS2 BK590 (bT2 BK591)) (fun hHeld => ?_)
 clear hK K
 refine nO (some 26) ?_
 refine pI 22 (some 27) HT_.out ?_
 refine oI 23 (none) HT_.out (fun K hK => ?_)
 have hs13 : w12.cell? ⟨gb592, 0, none⟩ = some (.int .i64 0) := bc BK592 0
 have hfs13 := blk_frozen BK592.out 0
 have hns13_0 := NB590_592.out
 have hns13_1 := NB591_592.out
 have hms13_0 := NB592_590.out
 have hms13_1 := NB592_591.out
 have hs14 : w12.cell? ⟨gb592, 1, none⟩ = some (.int .i64 0) := bc BK592 1
 have hfs14 := blk_frozen BK592.out 1
 have hns14_0 := NB590_592.out
 have hns14_1 := NB591_592.out
 have hms14_0 := NB592_590.out
 have hms14_1 := NB592_591.out
 refine skip_ (w1 := ?_) (by rfl) rfl ?_ ?_
 rotate_left
 ·go_simp
  rfl
 refine hK.out _ _ ⟨((cell_far (p := ⟨gb592, _, none⟩) NB590_592.out _).trans (((cell_far (p := ⟨gb592, _, none⟩) NB590_592.out _).trans (hHeld.1)))), ((cell_far (p := ⟨gb592, _, none⟩) NB590_592.out _).trans (((cell_far (p := ⟨gb592, _, none⟩) NB590_592.out _).trans (hHeld.2.1)))), ((cell_far (p := ⟨gb592, _, none⟩) NB591_592.out _).trans (((cell_far (p := ⟨gb592, _, none⟩) NB591_592.out _).trans (hHeld.2.2.1)))), ((cell_far (p := ⟨gb592, _, none⟩) NB591_592.out _).trans (((cell_far (p := ⟨gb592, _, none⟩) NB591_592.out _).trans (hHeld.2.2.2))))⟩ (fun hHeld => ?_)
 clear hK K
 refine done_ (done_of HT_.out (by kernel_rfl)) ?_
 try go_wp2
 refine rC gb592 75 #[.int .i64 t595, .int .i64 t598] (bU BK592) Tryz.underlying75 ?_
 exact ⟨rR, bZ HB⟩
def spec_PointAdd.j0 : Nat → Bool → Int → Int → Bool → Int → Int → Bool → Option (Int × Int × Bool)
 | 0, _, _, _, _, _, _, _ => none
 | k + 1, x12, x580000, x580001, x580002, x581000, x581001, x581002 => if x12 = true then ((spec_l07Zero.f).bind fun bt584 => (some (bt584.1, bt584.2.1, bt584.2.2))) else ((spec_l07Add.f k x580000 x580001 x580002 x581000 x581001 x581002).bind fun bt587 => (some (bt587.1, bt587.2.1, bt587.2.2)))
def spec_PointAdd.f (k : Nat) (a0_0 : Int) (a0_1 : Int) (a0_2 : Bool) (a1_0 : Int) (a1_1 : Int) (a1_2 : Bool) : Option (Int × Int × Bool) := (spec_PointOk.f a0_0 a0_1 a0_2).bind fun t582 => (if t582 = true then ((spec_PointOk.f a1_0 a1_1 a1_2).bind fun t583 => (spec_PointAdd.j0 k (!t583) a0_0 a0_1 a0_2 a1_0 a1_1 a1_2)) else (spec_PointAdd.j0 k true a0_0 a0_1 a0_2 a1_0 a1_1 a1_2))
set_option maxHeartbeats 8000000 in
set_option maxRecDepth 100000 in
theorem spec_PointAdd.calls (k : Nat) (a0_0 : Int) (a0_1 : Int) (a0_2 : Bool) (a1_0 : Int) (a1_1 : Int) (a1_2 : Bool) (r1 : Int) (r2 : Int) (r3 : Bool) (w : World) (h : spec_PointAdd.f k a0_0 a0_1 a0_2 a1_0 a1_1 a1_2 = some (r1, r2, r3)) :
  Calls Tryz.prog 92 #[.agg #[.int .i64 a0_0, .int .i64 a0_1, .bool a0_2], .agg #[.int .i64 a1_0, .int .i64 a1_1, .bool a1_2]] w fun e w' => e = .returned (.agg #[.int .i64 r1, .int .i64 r2, .bool r3]) ∧ Below w.heap.size w w' := by
 have hu28 := Tryz.underlying28
 have HB := Aside0.mk (Below.refl w.heap.size w)
 have H : ((spec_PointOk.f a0_0 a0_1 a0_2).bind fun t582 => (if t582 = true then ((spec_PointOk.f a1_0 a1_1 a1_2).bind fun t583 => (spec_PointAdd.j0 k (!t583) a0_0 a0_1 a0_2 a1_0 a1_1 a1_2)) else (spec_PointAdd.j0 k true a0_0 a0_1 a0_2 a1_0 a1_1 a1_2))) = some (r1, r2, r3) := h
 clear h
 have HC3 := Aside0.mk H
 clear H
 go_enter Tryz.func92, Tryz.ntmps92
 go_upto_region 1 with (first | (refine gB 2 #[.int .i64 a0_0, .int .i64 a0_1, .bool a0_2] 28 ?_; intro gb579 hg w4 BK579 hb; have GW579 := bG HB hg; replace HB := bS HB hb; clear hb hg) | (refine gB 3 #[.int .i64 a1_0, .int .i64 a1_1, .bool a1_2] 28 ?_; intro gb580 hg w5 BK580 hb; have GW580 := bG HB hg; replace HB := bS HB hb; obtain ⟨NB579_580, NB580_579⟩ := bN BK579 hg; replace BK579 := bB BK579 hb; clear hb hg) | (refine gB 4 #[.int .i64 0, .int .i64 0, .bool false] 28 ?_; intro gb581 hg w6 BK581 hb; have GW581 := bG HB hg; replace HB := bS HB hb; obtain ⟨NB579_581, NB581_579⟩ := bN BK579 hg; replace BK579 := bB BK579 hb; obtain ⟨NB580_581, NB581_580⟩ := bN BK580 hg; replace BK580 := bB BK580 hb; clear hb hg))
 (try simp only [Act.put, List.setIfInBounds_toArray, List.set_cons_zero, List.set_cons_succ])
 go_cut [12] (fun v12 wc => ∃ (kq : Nat) (x12_2 : Bool), v12 = .bool x12_2 ∧ Aside0 (spec_PointAdd.j0 kq x12_2 a0_0 a0_1 a0_2 a1_0 a1_1 a1_2 = some (r1, r2, r3)) ∧ Aside0 (kq ≤ k) ∧ Aside0 (wc.heap[gb579]? = some (.cells #[.int .i64 a0_0, .int .i64 a0_1, .bool a0_2] 28 (0, 0))) ∧ Aside0 (wc.heap[gb580]? = some (.cells #[.int .i64 a1_0, .int .i64 a1_1, .bool a1_2] 28 (0, 0))) ∧ Aside0 (wc.heap[gb581]? = some (.cells #[.int .i64 0, .int .i64 0, .bool false] 28 (0, 0))) ∧ Aside0 (Below w.heap.size w wc))
 case first =>
  have H := HC3.out
  clear HC3
  replace H := Option.bind_eq_some_iff.mp H
  obtain ⟨t582, A70, H⟩ := H
  have A7 := Aside0.mk A70
  clear A70
  by_cases c8 : t582 = true
  ·subst c8
   rw [if_pos rfl] at H
   replace H := Option.bind_eq_some_iff.mp H
   obtain ⟨t583, A90, H⟩ := H
   have A9 := Aside0.mk A90
   clear A90
   have H' := Aside0.mk H
   clear H
   obtain ⟨hnb10, hnc10⟩ := nB NB579_580
   obtain ⟨hnb11, hnc11⟩ := nB NB579_581
   obtain ⟨hcz12_0, hcz12_1, hcz12_2, hfz12_0, hfz12_1, hfz12_2⟩ := bK3 (w := w6) BK579
   go_wp2_with (first | (refine gC (some 6) Tryz.func115 #[.agg #[.int .i64 a0_0, .int .i64 a0_1, .bool a0_2]] ?_; (with_reducible refine (spec_PointOk.calls a0_0 a0_1 a0_2 true _ A7.out).mono ?_); rintro e w13 ⟨rfl, hb⟩; refine ⟨_, rfl, ?_⟩; replace BK579 := bB BK579 hb; replace BK580 := bB BK580 hb; replace BK581 := bB BK581 hb; replace HB := bS HB hb; (try clear hb); obtain ⟨hnb14, hnc14⟩ := nB NB580_581; obtain ⟨hcz15_0, hcz15_1, hcz15_2, hfz15_0, hfz15_1, hfz15_2⟩ := bK3 (w := w13) BK580) | (go_at_call 115; (with_reducible refine (spec_PointOk.calls a1_0 a1_1 a1_2 t583 _ A9.out).mono ?_); rintro e w16 ⟨rfl, hb⟩; replace BK579 := bB BK579 hb; replace BK580 := bB BK580 hb; replace BK581 := bB BK581 hb; replace HB := bS HB hb; (try clear hb)))
   go_meet
   case rel => exact ⟨_, (!t583), rS, H', ⟨by first | omega | exact Nat.le_refl _⟩, ⟨bP BK579⟩, ⟨bP BK580⟩, ⟨bP BK581⟩, ⟨bZ HB⟩⟩
  ·replace c8 := Bool.eq_false_iff.mpr c8
   subst c8
   rw [if_neg (show ¬ (false = true) by decide)] at H
   have H' := Aside0.mk H
   clear H
   obtain ⟨hnb17, hnc17⟩ := nB NB579_580
   obtain ⟨hnb18, hnc18⟩ := nB NB579_581
   obtain ⟨hcz19_0, hcz19_1, hcz19_2, hfz19_0, hfz19_1, hfz19_2⟩ := bK3 (w := w6) BK579
   go_wp2_with (first | (refine gC (some 6) Tryz.func115 #[.agg #[.int .i64 a0_0, .int .i64 a0_1, .bool a0_2]] ?_; (with_reducible refine (spec_PointOk.calls a0_0 a0_1 a0_2 false _ A7.out).mono ?_); rintro e w20 ⟨rfl, hb⟩; refine ⟨_, rfl, ?_⟩; replace BK579 := bB BK579 hb; replace BK580 := bB BK580 hb; replace BK581 := bB BK581 hb; replace HB := bS HB hb; (try clear hb)))
   go_meet
   case rel => exact ⟨_, (true), rS, H', ⟨by first | omega | exact Nat.le_refl _⟩, ⟨bP BK579⟩, ⟨bP BK580⟩, ⟨bP BK581⟩, ⟨bZ HB⟩⟩
 case rest =>
  clear HC3
  try clear c1
  try clear p2
  try clear c8
  try clear c9
  try clear c10
  try clear c11
  try clear c14
  try clear c17
  try clear c18
  try clear hcz12_0
  try clear hcz12_1
  try clear hcz12_2
  try clear hcz15_0
  try clear hcz15_1
  try clear hcz15_2
  try clear hcz19_0
  try clear hcz19_1
  try clear hcz19_2
  try clear hfz12_0
  try clear hfz12_1
  try clear hfz12_2
  try clear hfz15_0
  try clear hfz15_1
  try clear hfz15_2
  try clear hfz19_0
  try clear hfz19_1
  try clear hfz19_2
  obtain ⟨kq, x12_2, rfl, HA, HJ2, BK579, BK580, BK581, HB⟩ := hcut
  cases kq with
  | zero => exact absurd HA.out (by simp [spec_PointAdd.j0])
  | succ kj2 =>
   have H := HA.out
   clear HA
   simp only [spec_PointAdd.j0] at H
   by_cases c21 : x12_2 = true
   ·subst c21
    rw [if_pos rfl] at H
    replace H := Option.bind_eq_some_iff.mp H
    obtain ⟨⟨t584, t585, t586⟩, A220, H⟩ := H
    have A22 := Aside0.mk A220
    clear A220
    simp only [Option.some.injEq, Prod.mk.injEq] at H
    obtain ⟨rfl, rfl, rfl⟩ := H
    go_wp2_with (first | (refine gC (some 13) Tryz.func81 #[] ?_; (with_reducible refine (spec_l07Zero.calls  t584 t585 t586 _ A22.out).mono ?_); rintro e w23 ⟨rfl, hb⟩; refine ⟨_, rfl, ?_⟩; replace BK579 := bB BK579 hb; replace BK580 := bB BK580 hb; replace BK581 := bB BK581 hb; replace HB := bS HB hb; (try clear hb); obtain ⟨hnb24, hnc24⟩ := nB NB581_579; obtain ⟨hnb25, hnc25⟩ := nB NB581_580; obtain ⟨hcz26_0, hcz26_1, hcz26_2, hfz26_0, hfz26_1, hfz26_2⟩ := bK3 (w := w23) BK581))
    refine rC gb581 28 #[.int .i64 t584, .int .i64 t585, .bool t586] (bU BK581) Tryz.underlying28 ?_
    exact ⟨rR, bZ HB⟩
   ·replace c21 := Bool.eq_false_iff.mpr c21
    subst c21
    rw [if_neg (show ¬ (false = true) by decide)] at H
    replace H := Option.bind_eq_some_iff.mp H
    obtain ⟨⟨t587, t588, t589⟩, A270, H⟩ := H
    have A27 := Aside0.mk A270
    clear A270
    simp only [Option.some.injEq, Prod.mk.injEq] at H
    obtain ⟨rfl, rfl, rfl⟩ := H
    obtain ⟨hnb28, hnc28⟩ := nB NB579_580
    obtain ⟨hnb29, hnc29⟩ := nB NB579_581
    obtain ⟨hcz30_0, hcz30_1, hcz30_2, hfz30_0, hfz30_1, hfz30_2⟩ := bK3 (w := wc) BK579
    obtain ⟨hnb31, hnc31⟩ := nB NB580_581
    obtain ⟨hcz32_0, hcz32_1, hcz32_2, hfz32_0, hfz32_1, hfz32_2⟩ := bK3 (w := wc) BK580
    go_wp2_with (first | (refine gC (some 16) Tryz.func117 #[.agg #[.int .i64 a0_0, .int .i64 a0_1, .bool a0_2], .agg #[.int .i64 a1_0, .int .i64 a1_1, .bool a1_2]] ?_; (with_reducible refine (spec_l07Add.calls kj2 a0_0 a0_1 a0_2 a1_0 a1_1 a1_2 t587 t588 t589 _ A27.out).mono ?_); rintro e w33 ⟨rfl, hb⟩; refine ⟨_, rfl, ?_⟩; replace BK579 := bB BK579 hb; replace BK580 := bB BK580 hb; replace BK581 := bB BK581 hb; replace HB := bS HB hb; (try clear hb); obtain ⟨hcz34_0, hcz34_1, hcz34_2, hfz34_0, hfz34_1, hfz34_2⟩ := bK3 (w := w33) BK581))
    refine rC gb581 28 #[.int .i64 t587, .int .i64 t588, .bool t589] (bU BK581) Tryz.underlying28 ?_
    exact ⟨rR, bZ HB⟩
def spec_PairLine.j0 : Nat → Bool → Int → Int → Bool → Int → Int → Bool → Int → Int → Bool → Int → Int → Option (Int × Int)
 | 0, _, _, _, _, _, _, _, _, _, _, _, _ => none
 | k + 1, x36, x600000, x600001, x600002, x601000, x601001, x601002, x602000, x602001, x602002, x604000, x604001 => if x36 = true then (some (x604000, x604001)) else ((spec_l07Slope.f k x600000 x600001 x600002 x601000 x601001 x601002).bind fun bt607 => (if bt607.2 = true then ((spec_FpSub.f 0 x602000).bind fun t609 => ((spec_FpSub.f t609 x600000).bind fun t610 => ((spec_FpSub.f 0 x600001).bind fun t611 => ((spec_FpMul.f bt607.1 t610).bind fun t612 => ((spec_FpSub.f t611 t612).bind fun t613 => (some (t613, x602001))))))) else (some (x604000, x604001))))
def spec_PairLine.f (k : Nat) (a0_0 : Int) (a0_1 : Int) (a0_2 : Bool) (a1_0 : Int) (a1_1 : Int) (a1_2 : Bool) (a2_0 : Int) (a2_1 : Int) (a2_2 : Bool) : Option (Int × Int) := if a0_2 = true then (spec_PairLine.j0 k true a0_0 a0_1 a0_2 a1_0 a1_1 a1_2 a2_0 a2_1 a2_2 1 0) else (if a1_2 = true then (spec_PairLine.j0 k true a0_0 a0_1 a0_2 a1_0 a1_1 a1_2 a2_0 a2_1 a2_2 1 0) else (if a2_2 = true then (spec_PairLine.j0 k true a0_0 a0_1 a0_2 a1_0 a1_1 a1_2 a2_0 a2_1 a2_2 1 0) else ((spec_PointOk.f a0_0 a0_1 a0_2).bind fun t604 => (if t604 = true then ((spec_PointOk.f a1_0 a1_1 a1_2).bind fun t605 => (if t605 = true then ((spec_PointOk.f a2_0 a2_1 a2_2).bind fun t606 => (spec_PairLine.j0 k (!t606) a0_0 a0_1 a0_2 a1_0 a1_1 a1_2 a2_0 a2_1 a2_2 1 0)) else (spec_PairLine.j0 k true a0_0 a0_1 a0_2 a1_0 a1_1 a1_2 a2_0 a2_1 a2_2 1 0))) else (spec_PairLine.j0 k true a0_0 a0_1 a0_2 a1_0 a1_1 a1_2 a2_0 a2_1 a2_2 1 0)))))
def spec_PairLine.T8 : Bool × List (List Nat × List Nat) := (true, [([], []), ([0], [0]), ([1], [1]), ([], []), ([], []), ([3, 4, 2], [3, 4]), ([2, 5, 5], [2, 5]), ([], []), ([7], [7]), ([6, 8], [6, 8]), ([9, 6, 0, 1, 2, 3, 4, 5, 6, 7, 8, 9], [9])])
def spec_PairLine.B8 : List Nat := [0, 1, 3, 0, 0, 31, 63, 0, 128, 511, 1023]
theorem spec_PairLine.tab8 : rtab .any (opsOf Tryz.f141 8) = spec_PairLine.T8 := by kernel_rfl
theorem spec_PairLine.bits8 : waitsOk spec_PairLine.T8.2 spec_PairLine.B8 = true := by kernel_rfl
set_option maxHeartbeats 8000000 in
set_option maxRecDepth 100000 in
theorem spec_PairLine.calls (k : Nat) (a0_0 : Int) (a0_1 : Int) (a0_2 : Bool) (a1_0 : Int) (a1_1 : Int) (a1_2 : Bool) (a2_0 : Int) (a2_1 : Int) (a2_2 : Bool) (r1 : Int) (r2 : Int) (w : World) (h : spec_PairLine.f k a0_0 a0_1 a0_2 a1_0 a1_1 a1_2 a2_0 a2_1 a2_2 = some (r1, r2)) :
  Calls Tryz.prog 141 #[.agg #[.int .i64 a0_0, .int .i64 a0_1, .bool a0_2], .agg #[.int .i64 a1_0, .int .i64 a1_1, .bool a1_2], .agg #[.int .i64 a2_0, .int .i64 a2_1, .bool a2_2]] w fun e w' => e = .returned (.agg #[.int .i64 r1, .int .i64 r2]) ∧ Below w.heap.size w w' := by
 have hu28 := Tryz.underlying28
 have hu75 := Tryz.underlying75
 have HB := Aside0.mk (Below.refl w.heap.size w)
 have H : (if a0_2 = true then (spec_PairLine.j0 k true a0_0 a0_1 a0_2 a1_0 a1_1 a1_2 a2_0 a2_1 a2_2 1 0) else (if a1_2 = true then (spec_PairLine.j0 k true a0_0 a0_1 a0_2 a1_0 a1_1 a1_2 a2_0 a2_1 a2_2 1 0) else (if a2_2 = true then (spec_PairLine.j0 k true a0_0 a0_1 a0_2 a1_0 a1_1 a1_2 a2_0 a2_1 a2_2 1 0) else ((spec_PointOk.f a0_0 a0_1 a0_2).bind fun t604 => (if t604 = true then ((spec_PointOk.f a1_0 a1_1 a1_2).bind fun t605 => (if t605 = true then ((spec_PointOk.f a2_0 a2_1 a2_2).bind fun t606 => (spec_PairLine.j0 k (!t606) a0_0 a0_1 a0_2 a1_0 a1_1 a1_2 a2_0 a2_1 a2_2 1 0)) else (spec_PairLine.j0 k true a0_0 a0_1 a0_2 a1_0 a1_1 a1_2 a2_0 a2_1 a2_2 1 0))) else (spec_PairLine.j0 k true a0_0 a0_1 a0_2 a1_0 a1_1 a1_2 a2_0 a2_1 a2_2 1 0)))))) = some (r1, r2) := h
 clear h
 have HC4 := Aside0.mk H
 clear H
 go_enter Tryz.func141, Tryz.ntmps141
 go_upto_region 2 with (first | (refine gB 3 #[.int .i64 a0_0, .int .i64 a0_1, .bool a0_2] 28 ?_; intro gb599 hg w5 BK599 hb; have GW599 := bG HB hg; replace HB := bS HB hb; clear hb hg) | (refine gB 4 #[.int .i64 a1_0, .int .i64 a1_1, .bool a1_2] 28 ?_; intro gb600 hg w6 BK600 hb; have GW600 := bG HB hg; replace HB := bS HB hb; obtain ⟨NB599_600, NB600_599⟩ := bN BK599 hg; replace BK599 := bB BK599 hb; clear hb hg) | (refine gB 5 #[.int .i64 a2_0, .int .i64 a2_1, .bool a2_2] 28 ?_; intro gb601 hg w7 BK601 hb; have GW601 := bG HB hg; replace HB := bS HB hb; obtain ⟨NB599_601, NB601_599⟩ := bN BK599 hg; replace BK599 := bB BK599 hb; obtain ⟨NB600_601, NB601_600⟩ := bN BK600 hg; replace BK600 := bB BK600 hb; clear hb hg) | (refine gB 6 #[.int .i64 0, .int .i64 0] 75 ?_; intro gb602 hg w8 BK602 hb; have GW602 := bG HB hg; replace HB := bS HB hb; obtain ⟨NB599_602, NB602_599⟩ := bN BK599 hg; replace BK599 := bB BK599 hb; obtain ⟨NB600_602, NB602_600⟩ := bN BK600 hg; replace BK600 := bB BK600 hb; obtain ⟨NB601_602, NB602_601⟩ := bN BK601 hg; replace BK601 := bB BK601 hb; clear hb hg) | (refine gB 7 #[.int .i64 0, .int .i64 0] 75 ?_; intro gb603 hg w9 BK603 hb; have GW603 := bG HB hg; replace HB := bS HB hb; obtain ⟨NB599_603, NB603_599⟩ := bN BK599 hg; replace BK599 := bB BK599 hb; obtain ⟨NB600_603, NB603_600⟩ := bN BK600 hg; replace BK600 := bB BK600 hb; obtain ⟨NB601_603, NB603_601⟩ := bN BK601 hg; replace BK601 := bB BK601 hb; obtain ⟨NB602_603, NB603_602⟩ := bN BK602 hg; replace BK602 := bB BK602 hb; clear hb hg; obtain ⟨hnb10, hnc10⟩ := nB NB603_599; obtain ⟨hnb11, hnc11⟩ := nB NB603_600; obtain ⟨hnb12, hnc12⟩ := nB NB603_601; obtain ⟨hnb13, hnc13⟩ := nB NB603_602; obtain ⟨hcz14_0, hcz14_1, hfz14_0, hfz14_1⟩ := bK2 (w := w9) BK603))
 (try simp only [Act.put, List.setIfInBounds_toArray, List.set_cons_zero, List.set_cons_succ])
 go_cut [36] (fun v36 wc => ∃ (kq : Nat) (x36_3 : Bool), v36 = .bool x36_3 ∧ Aside0 (spec_PairLine.j0 kq x36_3 a0_0 a0_1 a0_2 a1_0 a1_1 a1_2 a2_0 a2_1 a2_2 1 0 = some (r1, r2)) ∧ Aside0 (kq ≤ k) ∧ Aside0 (wc.heap[gb599]? = some (.cells #[.int .i64 a0_0, .int .i64 a0_1, .bool a0_2] 28 (0, 0))) ∧ Aside0 (wc.heap[gb600]? = some (.cells #[.int .i64 a1_0, .int .i64 a1_1, .bool a1_2] 28 (0, 0))) ∧ Aside0 (wc.heap[gb601]? = some (.cells #[.int .i64 a2_0, .int .i64 a2_1, .bool a2_2] 28 (0, 0))) ∧ Aside0 (wc.heap[gb602]? = some (.cells #[.int .i64 0, .int .i64 0] 75 (0, 0))) ∧ Aside0 (wc.heap[gb603]? = some (.cells #[.int .i64 1, .int .i64 0] 75 (0, 0))) ∧ Aside0 (Below w.heap.size w wc))
 case first =>
  have H := HC4.out
  clear HC4
  by_cases c15 : a0_2 = true
  ·subst c15
   rw [if_pos rfl] at H
   have H' := Aside0.mk H
   clear H
   obtain ⟨hnb16, hnc16⟩ := nB NB599_600
   obtain ⟨hnb17, hnc17⟩ := nB NB599_601
   obtain ⟨hnb18, hnc18⟩ := nB NB599_602
   obtain ⟨hnb19, hnc19⟩ := nB NB599_603
   obtain ⟨hcz20_0, hcz20_1, hcz20_2, hfz20_0, hfz20_1, hfz20_2⟩ := bK3 (w := w9) BK599
   go_wp2
   go_meet
   case rel => exact ⟨_, (true), rS, H', ⟨by first | omega | exact Nat.le_refl _⟩, ⟨bP BK599⟩, ⟨bP BK600⟩, ⟨bP BK601⟩, ⟨bP BK602⟩, ⟨bU BK603⟩, ⟨bZ HB⟩⟩
  ·replace c15 := Bool.eq_false_iff.mpr c15
   subst c15
   rw [if_neg (show ¬ (false = true) by decide)] at H
   by_cases c21 : a1_2 = true
   ·subst c21
    rw [if_pos rfl] at H
    have H' := Aside0.mk H
    clear H
    obtain ⟨hnb22, hnc22⟩ := nB NB599_600
    obtain ⟨hnb23, hnc23⟩ := nB NB599_601
    obtain ⟨hnb24, hnc24⟩ := nB NB599_602
    obtain ⟨hnb25, hnc25⟩ := nB NB599_603
    obtain ⟨hcz26_0, hcz26_1, hcz26_2, hfz26_0, hfz26_1, hfz26_2⟩ := bK3 (w := w9) BK599
    obtain ⟨hnb27, hnc27⟩ := nB NB600_601
    obtain ⟨hnb28, hnc28⟩ := nB NB600_602
    obtain ⟨hnb29, hnc29⟩ := nB NB600_603
    obtain ⟨hcz30_0, hcz30_1, hcz30_2, hfz30_0, hfz30_1, hfz30_2⟩ := bK3 (w := w9) BK600
    go_wp2
    go_meet
    case rel => exact ⟨_, (true), rS, H', ⟨by first | omega | exact Nat.le_refl _⟩, ⟨bP BK599⟩, ⟨bP BK600⟩, ⟨bP BK601⟩, ⟨bP BK602⟩, ⟨bU BK603⟩, ⟨bZ HB⟩⟩
   ·replace c21 := Bool.eq_false_iff.mpr c21
    subst c21
    rw [if_neg (show ¬ (false = true) by decide)] at H
    by_cases c31 : a2_2 = true
    ·subst c31
     rw [if_pos rfl] at H
     have H' := Aside0.mk H
     clear H
     obtain ⟨hnb32, hnc32⟩ := nB NB599_600
     obtain ⟨hnb33, hnc33⟩ := nB NB599_601
     obtain ⟨hnb34, hnc34⟩ := nB NB599_602
     obtain ⟨hnb35, hnc35⟩ := nB NB599_603
     obtain ⟨hcz36_0, hcz36_1, hcz36_2, hfz36_0, hfz36_1, hfz36_2⟩ := bK3 (w := w9) BK599
     obtain ⟨hnb37, hnc37⟩ := nB NB600_601
     obtain ⟨hnb38, hnc38⟩ := nB NB600_602
     obtain ⟨hnb39, hnc39⟩ := nB NB600_603
     obtain ⟨hcz40_0, hcz40_1, hcz40_2, hfz40_0, hfz40_1, hfz40_2⟩ := bK3 (w := w9) BK600
     obtain ⟨hnb41, hnc41⟩ := nB NB601_602
     obtain ⟨hnb42, hnc42⟩ := nB NB601_603
     obtain ⟨hcz43_0, hcz43_1, hcz43_2, hfz43_0, hfz43_1, hfz43_2⟩ := bK3 (w := w9) BK601
     go_wp2
     go_meet
     case rel => exact ⟨_, (true), rS, H', ⟨by first | omega | exact Nat.le_refl _⟩, ⟨bP BK599⟩, ⟨bP BK600⟩, ⟨bP BK601⟩, ⟨bP BK602⟩, ⟨bU BK603⟩, ⟨bZ HB⟩⟩
    ·replace c31 := Bool.eq_false_iff.mpr c31
     subst c31
     rw [if_neg (show ¬ (false = true) by decide)] at H
     replace H := Option.bind_eq_some_iff.mp H
     obtain ⟨t604, A440, H⟩ := H
     have A44 := Aside0.mk A440
     clear A440
     by_cases c45 : t604 = true
     ·subst c45
      rw [if_pos rfl] at H
      replace H := Option.bind_eq_some_iff.mp H
      obtain ⟨t605, A460, H⟩ := H
      have A46 := Aside0.mk A460
      clear A460
      by_cases c47 : t605 = true
      ·subst c47
       rw [if_pos rfl] at H
       replace H := Option.bind_eq_some_iff.mp H
       obtain ⟨t606, A480, H⟩ := H
       have A48 := Aside0.mk A480
       clear A480
       have H' := Aside0.mk H
       clear H
       obtain ⟨hnb49, hnc49⟩ := nB NB599_600
       obtain ⟨hnb50, hnc50⟩ := nB NB599_601
       obtain ⟨hnb51, hnc51⟩ := nB NB599_602
       obtain ⟨hnb52, hnc52⟩ := nB NB599_603
       obtain ⟨hcz53_0, hcz53_1, hcz53_2, hfz53_0, hfz53_1, hfz53_2⟩ := bK3 (w := w9) BK599
       obtain ⟨hnb54, hnc54⟩ := nB NB600_601
       obtain ⟨hnb55, hnc55⟩ := nB NB600_602
       obtain ⟨hnb56, hnc56⟩ := nB NB600_603
       obtain ⟨hcz57_0, hcz57_1, hcz57_2, hfz57_0, hfz57_1, hfz57_2⟩ := bK3 (w := w9) BK600
       obtain ⟨hnb58, hnc58⟩ := nB NB601_602
       obtain ⟨hnb59, hnc59⟩ := nB NB601_603
       obtain ⟨hcz60_0, hcz60_1, hcz60_2, hfz60_0, hfz60_1, hfz60_2⟩ := bK3 (w := w9) BK601
       go_wp2_with (first | (go_at_call 115; (with_reducible refine (spec_PointOk.calls a0_0 a0_1 false true _ A44.out).mono ?_); rintro e w61 ⟨rfl, hb⟩; replace BK599 := bB BK599 hb; replace BK600 := bB BK600 hb; replace BK601 := bB BK601 hb; replace BK602 := bB BK602 hb; replace BK603 := bV 75 #[.int .i64 1, .int .i64 0] BK603 hb; replace HB := bS HB hb; (try clear hb); obtain ⟨hcz62_0, hcz62_1, hcz62_2, hfz62_0, hfz62_1, hfz62_2⟩ := bK3 (w := w61) BK600) | (go_at_call 115; (with_reducible refine (spec_PointOk.calls a1_0 a1_1 false true _ A46.out).mono ?_); rintro e w63 ⟨rfl, hb⟩; replace BK599 := bB BK599 hb; replace BK600 := bB BK600 hb; replace BK601 := bB BK601 hb; replace BK602 := bB BK602 hb; replace BK603 := bB BK603 hb; replace HB := bS HB hb; (try clear hb); obtain ⟨hcz64_0, hcz64_1, hcz64_2, hfz64_0, hfz64_1, hfz64_2⟩ := bK3 (w := w63) BK601) | (go_at_call 115; (with_reducible refine (spec_PointOk.calls a2_0 a2_1 false t606 _ A48.out).mono ?_); rintro e w65 ⟨rfl, hb⟩; replace BK599 := bB BK599 hb; replace BK600 := bB BK600 hb; replace BK601 := bB BK601 hb; replace BK602 := bB BK602 hb; replace BK603 := bB BK603 hb; replace HB := bS HB hb; (try clear hb)))
       go_meet
       case rel => exact ⟨_, (!t606), rS, H', ⟨by first | omega | exact Nat.le_refl _⟩, ⟨bP BK599⟩, ⟨bP BK600⟩, ⟨bP BK601⟩, ⟨bP BK602⟩, ⟨bP BK603⟩, ⟨bZ HB⟩⟩
      ·replace c47 := Bool.eq_false_iff.mpr c47
       subst c47
       rw [if_neg (show ¬ (false = true) by decide)] at H
       have H' := Aside0.mk H
       clear H
       obtain ⟨hnb66, hnc66⟩ := nB NB599_600
       obtain ⟨hnb67, hnc67⟩ := nB NB599_601
       obtain ⟨hnb68, hnc68⟩ := nB NB599_602
       obtain ⟨hnb69, hnc69⟩ := nB NB599_603
       obtain ⟨hcz70_0, hcz70_1, hcz70_2, hfz70_0, hfz70_1, hfz70_2⟩ := bK3 (w := w9) BK599
       obtain ⟨hnb71, hnc71⟩ := nB NB600_601
       obtain ⟨hnb72, hnc72⟩ := nB NB600_602
       obtain ⟨hnb73, hnc73⟩ := nB NB600_603
       obtain ⟨hcz74_0, hcz74_1, hcz74_2, hfz74_0, hfz74_1, hfz74_2⟩ := bK3 (w := w9) BK600
       obtain ⟨hnb75, hnc75⟩ := nB NB601_602
       obtain ⟨hnb76, hnc76⟩ := nB NB601_603
       obtain ⟨hcz77_0, hcz77_1, hcz77_2, hfz77_0, hfz77_1, hfz77_2⟩ := bK3 (w := w9) BK601
       go_wp2_with (first | (go_at_call 115; (with_reducible refine (spec_PointOk.calls a0_0 a0_1 false true _ A44.out).mono ?_); rintro e w78 ⟨rfl, hb⟩; replace BK599 := bB BK599 hb; replace BK600 := bB BK600 hb; replace BK601 := bB BK601 hb; replace BK602 := bB BK602 hb; replace BK603 := bV 75 #[.int .i64 1, .int .i64 0] BK603 hb; replace HB := bS HB hb; (try clear hb); obtain ⟨hcz79_0, hcz79_1, hcz79_2, hfz79_0, hfz79_1, hfz79_2⟩ := bK3 (w := w78) BK600) | (go_at_call 115; (with_reducible refine (spec_PointOk.calls a1_0 a1_1 false false _ A46.out).mono ?_); rintro e w80 ⟨rfl, hb⟩; replace BK599 := bB BK599 hb; replace BK600 := bB BK600 hb; replace BK601 := bB BK601 hb; replace BK602 := bB BK602 hb; replace BK603 := bB BK603 hb; replace HB := bS HB hb; (try clear hb)))
       go_meet
       case rel => exact ⟨_, (true), rS, H', ⟨by first | omega | exact Nat.le_refl _⟩, ⟨bP BK599⟩, ⟨bP BK600⟩, ⟨bP BK601⟩, ⟨bP BK602⟩, ⟨bP BK603⟩, ⟨bZ HB⟩⟩
     ·replace c45 := Bool.eq_false_iff.mpr c45
      subst c45
      rw [if_neg (show ¬ (false = true) by decide)] at H
      have H' := Aside0.mk H
      clear H
      obtain ⟨hnb81, hnc81⟩ := nB NB599_600
      obtain ⟨hnb82, hnc82⟩ := nB NB599_601
      obtain ⟨hnb83, hnc83⟩ := nB NB599_602
      obtain ⟨hnb84, hnc84⟩ := nB NB599_603
      obtain ⟨hcz85_0, hcz85_1, hcz85_2, hfz85_0, hfz85_1, hfz85_2⟩ := bK3 (w := w9) BK599
      obtain ⟨hnb86, hnc86⟩ := nB NB600_601
      obtain ⟨hnb87, hnc87⟩ := nB NB600_602
      obtain ⟨hnb88, hnc88⟩ := nB NB600_603
      obtain ⟨hcz89_0, hcz89_1, hcz89_2, hfz89_0, hfz89_1, hfz89_2⟩ := bK3 (w := w9) BK600
      obtain ⟨hnb90, hnc90⟩ := nB NB601_602
      obtain ⟨hnb91, hnc91⟩ := nB NB601_603
      obtain ⟨hcz92_0, hcz92_1, hcz92_2, hfz92_0, hfz92_1, hfz92_2⟩ := bK3 (w := w9) BK601
      go_wp2_with (first | (go_at_call 115; (with_reducible refine (spec_PointOk.calls a0_0 a0_1 false false _ A44.out).mono ?_); rintro e w93 ⟨rfl, hb⟩; replace BK599 := bB BK599 hb; replace BK600 := bB BK600 hb; replace BK601 := bB BK601 hb; replace BK602 := bB BK602 hb; replace BK603 := bV 75 #[.int .i64 1, .int .i64 0] BK603 hb; replace HB := bS HB hb; (try clear hb)))
      go_meet
      case rel => exact ⟨_, (true), rS, H', ⟨by first | omega | exact Nat.le_refl _⟩, ⟨bP BK599⟩, ⟨bP BK600⟩, ⟨bP BK601⟩, ⟨bP BK602⟩, ⟨bP BK603⟩, ⟨bZ HB⟩⟩
 case rest =>
  clear HC4
  try clear c1
  try clear c2
  try clear p2
  try clear c3
  try clear c4
  try clear c5
  try clear c6
  try clear c7
  try clear c8
  try clear c9
  try clear c10
  try clear c11
  try clear c12
  try clear c13
  try clear c14
  try clear c15
  try clear c16
  try clear c17
  try clear c18
  try clear c19
  try clear c21
  try clear c22
  try clear c23
  try clear c24
  try clear c25
  try clear c27
  try clear c28
  try clear c29
  try clear c31
  try clear c32
  try clear c33
  try clear c34
  try clear c35
  try clear c37
  try clear c38
  try clear c39
  try clear c41
  try clear c42
  try clear c45
  try clear c47
  try clear c49
  try clear c50
  try clear c51
  try clear c52
  try clear c54
  try clear c55
  try clear c56
  try clear c58
  try clear c59
  try clear c66
  try clear c67
  try clear c68
  try clear c69
  try clear c71
  try clear c72
  try clear c73
  try clear c75
  try clear c76
  try clear c81
  try clear c82
  try clear c83
  try clear c84
  try clear c86
  try clear c87
  try clear c88
  try clear c90
  try clear c91
  try clear hcz14_0
  try clear hcz14_1
  try clear hcz20_0
  try clear hcz20_1
  try clear hcz20_2
  try clear hcz26_0
  try clear hcz26_1
  try clear hcz26_2
  try clear hcz30_0
  try clear hcz30_1
  try clear hcz30_2
  try clear hcz36_0
  try clear hcz36_1
  try clear hcz36_2
  try clear hcz40_0
  try clear hcz40_1
  try clear hcz40_2
  try clear hcz43_0
  try clear hcz43_1
  try clear hcz43_2
  try clear hcz53_0
  try clear hcz53_1
  try clear hcz53_2
  try clear hcz57_0
  try clear hcz57_1
  try clear hcz57_2
  try clear hcz60_0
  try clear hcz60_1
  try clear hcz60_2
  try clear hcz62_0
  try clear hcz62_1
  try clear hcz62_2
  try clear hcz64_0
  try clear hcz64_1
  try clear hcz64_2
  try clear hcz70_0
  try clear hcz70_1
  try clear hcz70_2
  try clear hcz74_0
  try clear hcz74_1
  try clear hcz74_2
  try clear hcz77_0
  try clear hcz77_1
  try clear hcz77_2
  try clear hcz79_0
  try clear hcz79_1
  try clear hcz79_2
  try clear hcz85_0
  try clear hcz85_1
  try clear hcz85_2
  try clear hcz89_0
  try clear hcz89_1
  try clear hcz89_2
  try clear hcz92_0
  try clear hcz92_1
  try clear hcz92_2
  try clear hfz14_0
  try clear hfz14_1
  try clear hfz20_0
  try clear hfz20_1
  try clear hfz20_2
  try clear hfz26_0
  try clear hfz26_1
  try clear hfz26_2
  try clear hfz30_0
  try clear hfz30_1
  try clear hfz30_2
  try clear hfz36_0
  try clear hfz36_1
  try clear hfz36_2
  try clear hfz40_0
  try clear hfz40_1
  try clear hfz40_2
  try clear hfz43_0
  try clear hfz43_1
  try clear hfz43_2
  try clear hfz53_0
  try clear hfz53_1
  try clear hfz53_2
  try clear hfz57_0
  try clear hfz57_1
  try clear hfz57_2
  try clear hfz60_0
  try clear hfz60_1
  try clear hfz60_2
  try clear hfz62_0
  try clear hfz62_1
  try clear hfz62_2
  try clear hfz64_0
  try clear hfz64_1
  try clear hfz64_2
  try clear hfz70_0
  try clear hfz70_1
  try clear hfz70_2
  try clear hfz74_0
  try clear hfz74_1
  try clear hfz74_2
  try clear hfz77_0
  try clear hfz77_1
  try clear hfz77_2
  try clear hfz79_0
  try clear hfz79_1
  try clear hfz79_2
  try clear hfz85_0
  try clear hfz85_1
  try clear hfz85_2
  try clear hfz89_0
  try clear hfz89_1
  try clear hfz89_2
  try clear hfz92_0
  try clear hfz92_1
  try clear hfz92_2
  obtain ⟨kq, x36_3, rfl, HA, HJ3, BK599, BK600, BK601, BK602, BK603, HB⟩ := hcut
  cases kq with
  | zero => exact absurd HA.out (by simp [spec_PairLine.j0])
  | succ kj3 =>
   have H := HA.out
   clear HA
   simp only [spec_PairLine.j0] at H
   by_cases c94 : x36_3 = true
   ·subst c94
    rw [if_pos rfl] at H
    simp only [Option.some.injEq, Prod.mk.injEq] at H
    obtain ⟨rfl, rfl⟩ := H
    obtain ⟨hnb95, hnc95⟩ := nB NB603_599
    obtain ⟨hnb96, hnc96⟩ := nB NB603_600
    obtain ⟨hnb97, hnc97⟩ := nB NB603_601
    obtain ⟨hnb98, hnc98⟩ := nB NB603_602
    obtain ⟨hcz99_0, hcz99_1, hfz99_0, hfz99_1⟩ := bK2 (w := wc) BK603
    obtain ⟨hnb100, hnc100⟩ := nB NB602_599
    obtain ⟨hnb101, hnc101⟩ := nB NB602_600
    obtain ⟨hnb102, hnc102⟩ := nB NB602_601
    obtain ⟨hcz103_0, hcz103_1, hfz103_0, hfz103_1⟩ := bK2 (w := wc) BK602
    go_wp2
    refine rC gb602 75 #[.int .i64 1, .int .i64 0] (bU BK602) Tryz.underlying75 ?_
    exact ⟨rR, bZ HB⟩
   ·replace c94 := Bool.eq_false_iff.mpr c94
    subst c94
    rw [if_neg (show ¬ (false = true) by decide)] at H
    replace H := Option.bind_eq_some_iff.mp H
    obtain ⟨⟨t607, t608⟩, A1040, H⟩ := H
    have A104 := Aside0.mk A1040
    clear A1040
    by_cases c105 : t608 = true
    ·subst c105
     rw [if_pos rfl] at H
     replace H := Option.bind_eq_some_iff.mp H
     obtain ⟨t609, A1060, H⟩ := H
     have A106 := Aside0.mk A1060
     clear A1060
     replace H := Option.bind_eq_some_iff.mp H
     obtain ⟨t610, A1070, H⟩ := H
     have A107 := Aside0.mk A1070
     clear A1070
     replace H := Option.bind_eq_some_iff.mp H
     obtain ⟨t611, A1080, H⟩ := H
     have A108 := Aside0.mk A1080
     clear A1080
     replace H := Option.bind_eq_some_iff.mp H
     obtain ⟨t612, A1090, H⟩ := H
     have A109 := Aside0.mk A1090
     clear A1090
     replace H := Option.bind_eq_some_iff.mp H
     obtain ⟨t613, A1100, H⟩ := H
     have A110 := Aside0.mk A1100
     clear A1100
     simp only [Option.some.injEq, Prod.mk.injEq] at H
     obtain ⟨rfl, rfl⟩ := H
     obtain ⟨hnb111, hnc111⟩ := nB NB599_600
     obtain ⟨hnb112, hnc112⟩ := nB NB599_601
     obtain ⟨hnb113, hnc113⟩ := nB NB599_602
     obtain ⟨hnb114, hnc114⟩ := nB NB599_603
     obtain ⟨hcz115_0, hcz115_1, hcz115_2, hfz115_0, hfz115_1, hfz115_2⟩ := bK3 (w := wc) BK599
     obtain ⟨hnb116, hnc116⟩ := nB NB600_601
     obtain ⟨hnb117, hnc117⟩ := nB NB600_602
     obtain ⟨hnb118, hnc118⟩ := nB NB600_603
     obtain ⟨hcz119_0, hcz119_1, hcz119_2, hfz119_0, hfz119_1, hfz119_2⟩ := bK3 (w := wc) BK600
     try go_wp2_with (first | (refine gC (some 41) Tryz.func140 #[.agg #[.int .i64 a0_0, .int .i64 a0_1, .bool a0_2], .agg #[.int .i64 a1_0, .int .i64 a1_1, .bool a1_2]] ?_; (with_reducible refine (spec_l07Slope.calls kj3 a0_0 a0_1 a0_2 a1_0 a1_1 a1_2 t607 true _ A104.out).mono ?_); rintro e w120 ⟨rfl, hb⟩; refine ⟨_, rfl, ?_⟩; replace BK599 := bB BK599 hb; replace BK600 := bB BK600 hb; replace BK601 := bB BK601 hb; replace BK602 := bB BK602 hb; replace BK603 := bB BK603 hb; replace HB := bS HB hb; (try clear hb)))
     replace BK599 := Aside0.mk (blk_drew BK599.out)
     replace BK600 := Aside0.mk (blk_drew BK600.out)
     replace BK601 := Aside0.mk (blk_drew BK601.out)
     replace BK602 := Aside0.mk (blk_drew BK602.out)
     replace BK603 := Aside0.mk (blk_drew BK603.out)
     replace HB := Aside0.mk (below_drew1 HB.out)
     refine start_ (n := 7) (S := fun w' => SP3 w' gb601 (.int .i64 a2_0) (.int .i64 a2_1) (.bool a2_2) (SQ3 w' gb599 (.int .i64 a0_0) (.int .i64 a0_1) (.bool a0_2))) (ds := []) #[false, false, false, false, false, false, false] (by kernel_rfl) rfl rfl (bS3 BK601 (bT3 BK599)) (fun hHeld => ?_)
     generalize w120.drew = w121 at BK599 BK600 BK601 BK602 BK603 HB hHeld ⊢
     refine pJ 0 (some 47) ?_
     refine pJ 3 (some 50) ?_
     refine tJ 1 (some 48) hHeld ?_
     refine tJ 4 (some 51) hHeld ?_
     refine one_ (i := 2) (N := some 49) #[true, true, true, true, true, false, false] rfl rfl (by kernel_rfl) (by decide) (fun K hK => ?_)
     refine gO Tryz.func113 #[.int .i64 0, .int .i64 a2_0] ?_
     with_reducible refine (spec_FpSub.calls 0 a2_0 t609 _ A106.out).mono ?_
     rintro e w' ⟨rfl, ⟨nd, rfl⟩⟩
     refine ⟨_, rfl, ?_⟩
     refine hK.out _ _ (bS3 BK601 (bT3 BK599)) (fun hHeld => ?_)
     clear hK K
     refine nO (some 49) ?_
     refine one_ (i := 5) (N := some 52) #[true, true, true, true, true, true, false] rfl rfl (by kernel_rfl) (by decide) (fun K hK => ?_)
     refine gO Tryz.func113 #[.int .i64 t609, .int .i64 a0_0] ?_
     with_reducible refine (spec_FpSub.calls t609 a0_0 t610 _ A107.out).mono ?_
     rintro e w' ⟨rfl, ⟨nd, rfl⟩⟩
     refine ⟨_, rfl, ?_⟩
     refine hK.out _ _ (bS3 BK601 (bT3 BK599)) (fun hHeld => ?_)
     clear hK K
     refine nO (some 52) ?_
     refine pJ 6 (some 10) ?_
     refine done_ (by kernel_rfl) ?_
     try go_wp2
     (try simp only [World.drewN_drewN]); (try (rw [drewN_self w121]; generalize hq_ : World.drewN w121 _ = w121; replace BK599 : Aside0 (w121.heap[gb599]? = some (.cells #[.int .i64 a0_0, .int .i64 a0_1, .bool a0_2] 28 (0, 0))) := ⟨by rw [← hq_]; exact (bP BK599)⟩; replace BK600 : Aside0 (w121.heap[gb600]? = some (.cells #[.int .i64 a1_0, .int .i64 a1_1, .bool a1_2] 28 (0, 0))) := ⟨by rw [← hq_]; exact (bP BK600)⟩; replace BK601 : Aside0 (w121.heap[gb601]? = some (.cells #[.int .i64 a2_0, .int .i64 a2_1, .bool a2_2] 28 (0, 0))) := ⟨by rw [← hq_]; exact (bP BK601)⟩; replace BK602 : Aside0 (w121.heap[gb602]? = some (.cells #[.int .i64 0, .int .i64 0] 75 (0, 0))) := ⟨by rw [← hq_]; exact (bP BK602)⟩; replace BK603 : Aside0 (w121.heap[gb603]? = some (.cells #[.int .i64 1, .int .i64 0] 75 (0, 0))) := ⟨by rw [← hq_]; exact (bP BK603)⟩; replace HB : Aside0 (Below w.heap.size w w121) := ⟨by rw [← hq_]; exact (bZ HB)⟩; clear hq_))
     replace BK599 := Aside0.mk (blk_drew BK599.out)
     replace BK600 := Aside0.mk (blk_drew BK600.out)
     replace BK601 := Aside0.mk (blk_drew BK601.out)
     replace BK602 := Aside0.mk (blk_drew BK602.out)
     replace BK603 := Aside0.mk (blk_drew BK603.out)
     replace HB := Aside0.mk (below_drew1 HB.out)
     refine start_ (n := 11) (S := fun w' => SP3 w' gb599 (.int .i64 a0_0) (.int .i64 a0_1) (.bool a0_2) (SQ3 w' gb601 (.int .i64 a2_0) (.int .i64 a2_1) (.bool a2_2))) (ds := []) #[false, false, false, false, false, false, false, false, false, false, false] (by kernel_rfl) rfl rfl (bS3 BK599 (bT3 BK601)) (fun hHeld => ?_); refine with_tabW spec_PairLine.tab8 spec_PairLine.bits8 (fun HT_ HW_ => ?_)
     generalize w121.drew = w122 at BK599 BK600 BK601 BK602 BK603 HB hHeld ⊢
     refine pI 0 (some 53) HT_.out ?_
     refine pI 3 (some 56) HT_.out ?_
     refine pI 4 (some 57) HT_.out ?_
     refine pI 7 (some 60) HT_.out ?_
     refine tI6 1 (some 54) HT_.out HW_.out hHeld ?_
     refine tI6 8 (some 61) HT_.out HW_.out hHeld ?_
     refine oI 2 (some 55) HT_.out (fun K hK => ?_)
     refine gO Tryz.func113 #[.int .i64 0, .int .i64 a0_1] ?_
     with_reducible refine (spec_FpSub.calls 0 a0_1 t611 _ A108.out).mono ?_
     rintro e w' ⟨rfl, ⟨nd, rfl⟩⟩
     refine ⟨_, rfl, ?_⟩
     refine hK.out _ _ (bS3 BK599 (bT3 BK601)) (fun hHeld => ?_)
     clear hK K
     refine nO (some 55) ?_
     refine oI 5 (some 58) HT_.out (fun K hK => ?_)
     refine gO Tryz.func112 #[.int .i64 t607, .int .i64 t610] ?_
     with_reducible refine (spec_FpMul.calls t607 t610 t612 _ A109.out).mono ?_
     rintro e w' ⟨rfl, ⟨nd, rfl⟩⟩
     refine ⟨_, rfl, ?_⟩
     refine hK.out _ _ (bS3 BK599 (bT3 BK601)) (fun hHeld => ?_)
     clear hK K
     refine nO (some 58) ?_
     refine oI 6 (some 59) HT_.out (fun K hK => ?_)
     refine gO Tryz.func113 #[.int .i64 t611, .int .i64 t612] ?_
     with_reducible refine (spec_FpSub.calls t611 t612 t613 _ A110.out).mono ?_
     rintro e w' ⟨rfl, ⟨nd, rfl⟩⟩
     refine ⟨_, rfl, ?_⟩
     refine hK.out _ _ (bS3 BK599 (bT3 BK601)) (fun hHeld => ?_)
     clear hK K
     refine nO (some 59) ?_
     refine pI 9 (some 62) HT_.out ?_
     refine oI 10 (none) HT_.out (fun K hK => ?_)
     have hs123 : w122.cell? ⟨gb602, 0, none⟩ = some (.int .i64 0) := bc BK602 0
     have hfs123 := blk_frozen BK602.out 0
     have hns123_0 := NB599_602.out
     have hns123_1 := NB600_602.out
     have hns123_2 := NB601_602.out
     have hns123_4 := NB603_602.out
     have hms123_0 := NB602_599.out
     have hms123_1 := NB602_600.out
     have hms123_2 := NB602_601.out
     have hms123_4 := NB602_603.out
     have hs124 : w122.cell? ⟨gb602, 1, none⟩ = some (.int .i64 0) := bc BK602 1
     have hfs124 := blk_frozen BK602.out 1
     have hns124_0 := NB599_602.out
     have hns124_1 := NB600_602.out
     have hns124_2 := NB601_602.out
     have hns124_4 := NB603_602.out
     have hms124_0 := NB602_599.out
     have hms124_1 := NB602_600.out
     have hms124_2 := NB602_601.out
     have hms124_4 := NB602_603.out
     refine skip_ (w1 := ?_) (by rfl) rfl ?_ ?_
     rotate_left
     ·go_simp
      rfl
     refine hK.out _ _ ⟨((cell_far (p := ⟨gb602, _, none⟩) NB599_602.out _).trans (((cell_far (p := ⟨gb602, _, none⟩) NB599_602.out _).trans (hHeld.1)))), ((cell_far (p := ⟨gb602, _, none⟩) NB599_602.out _).trans (((cell_far (p := ⟨gb602, _, none⟩) NB599_602.out _).trans (hHeld.2.1)))), ((cell_far (p := ⟨gb602, _, none⟩) NB599_602.out _).trans (((cell_far (p := ⟨gb602, _, none⟩) NB599_602.out _).trans (hHeld.2.2.1)))), ((cell_far (p := ⟨gb602, _, none⟩) NB601_602.out _).trans (((cell_far (p := ⟨gb602, _, none⟩) NB601_602.out _).trans (hHeld.2.2.2.1)))), ((cell_far (p := ⟨gb602, _, none⟩) NB601_602.out _).trans (((cell_far (p := ⟨gb602, _, none⟩) NB601_602.out _).trans (hHeld.2.2.2.2.1)))), ((cell_far (p := ⟨gb602, _, none⟩) NB601_602.out _).trans (((cell_far (p := ⟨gb602, _, none⟩) NB601_602.out _).trans (hHeld.2.2.2.2.2))))⟩ (fun hHeld => ?_)
     clear hK K
     refine done_ (done_of HT_.out (by kernel_rfl)) ?_
     try go_wp2
     refine rC gb602 75 #[.int .i64 t613, .int .i64 a2_1] (bU BK602) Tryz.underlying75 ?_
     exact ⟨rR, bZ HB⟩
    ·replace c105 := Bool.eq_false_iff.mpr c105
     subst c105
     rw [if_neg (show ¬ (false = true) by decide)] at H
     simp only [Option.some.injEq, Prod.mk.injEq] at H
     obtain ⟨rfl, rfl⟩ := H
     obtain ⟨hnb125, hnc125⟩ := nB NB599_600
     obtain ⟨hnb126, hnc126⟩ := nB NB599_601
     obtain ⟨hnb127, hnc127⟩ := nB NB599_602
     obtain ⟨hnb128, hnc128⟩ := nB NB599_603
     obtain ⟨hcz129_0, hcz129_1, hcz129_2, hfz129_0, hfz129_1, hfz129_2⟩ := bK3 (w := wc) BK599
     obtain ⟨hnb130, hnc130⟩ := nB NB600_601
     obtain ⟨hnb131, hnc131⟩ := nB NB600_602
     obtain ⟨hnb132, hnc132⟩ := nB NB600_603
     obtain ⟨hcz133_0, hcz133_1, hcz133_2, hfz133_0, hfz133_1, hfz133_2⟩ := bK3 (w := wc) BK600
     go_wp2_with (first | (refine gC (some 41) Tryz.func140 #[.agg #[.int .i64 a0_0, .int .i64 a0_1, .bool a0_2], .agg #[.int .i64 a1_0, .int .i64 a1_1, .bool a1_2]] ?_; (with_reducible refine (spec_l07Slope.calls kj3 a0_0 a0_1 a0_2 a1_0 a1_1 a1_2 t607 false _ A104.out).mono ?_); rintro e w134 ⟨rfl, hb⟩; refine ⟨_, rfl, ?_⟩; replace BK599 := bB BK599 hb; replace BK600 := bB BK600 hb; replace BK601 := bB BK601 hb; replace BK602 := bB BK602 hb; replace BK603 := bB BK603 hb; replace HB := bS HB hb; (try clear hb); obtain ⟨hnb135, hnc135⟩ := nB NB603_601; obtain ⟨hnb136, hnc136⟩ := nB NB603_602; obtain ⟨hcz137_0, hcz137_1, hfz137_0, hfz137_1⟩ := bK2 (w := w134) BK603; obtain ⟨hnb138, hnc138⟩ := nB NB602_601; obtain ⟨hcz139_0, hcz139_1, hfz139_0, hfz139_1⟩ := bK2 (w := w134) BK602))
     refine rC gb602 75 #[.int .i64 1, .int .i64 0] (bU BK602) Tryz.underlying75 ?_
     exact ⟨rR, bZ HB⟩
def spec_Miller.l0 : Nat → Int → Int → Int → Bool → Int → Int → Bool → Int → Int → Int → Int → Bool → Option (Int × Int)
 | 0, _, _, _, _, _, _, _, _, _, _, _, _ => none
 | k + 1, x7, x615000, x615001, x615002, x616000, x616001, x616002, x618000, x618001, x619000, x619001, x619002 => if x7 ≥ 0 then ((spec_TwoMul.f x618000 x618001 x618000 x618001).bind fun bt619 => ((spec_PairLine.f k x619000 x619001 x619002 x619000 x619001 x619002 x616000 x616001 x616002).bind fun bt621 => ((spec_TwoMul.f bt619.1 bt619.2 bt621.1 bt621.2).bind fun bt623 => ((spec_PointAdd.f k x619000 x619001 x619002 x619000 x619001 x619002).bind fun bt625 => (if 0 ≤ (IntKind.u64.wrap (x7)) then (if ((shr .i64 1009 (IntKind.u64.wrap (x7))) % 2) = 1 then ((spec_PairLine.f k bt625.1 bt625.2.1 bt625.2.2 x615000 x615001 x615002 x616000 x616001 x616002).bind fun bt628 => ((spec_TwoMul.f bt623.1 bt623.2 bt628.1 bt628.2).bind fun bt630 => ((spec_PointAdd.f k bt625.1 bt625.2.1 bt625.2.2 x615000 x615001 x615002).bind fun bt632 => (spec_Miller.l0 k (wrap64 (x7 - 1)) x615000 x615001 x615002 x616000 x616001 x616002 bt630.1 bt630.2 bt632.1 bt632.2.1 bt632.2.2)))) else (spec_Miller.l0 k (wrap64 (x7 - 1)) x615000 x615001 x615002 x616000 x616001 x616002 bt623.1 bt623.2 bt625.1 bt625.2.1 bt625.2.2)) else (none)))))) else (some (x618000, x618001))
def spec_Miller.f (k : Nat) (a0_0 : Int) (a0_1 : Int) (a0_2 : Bool) (a1_0 : Int) (a1_1 : Int) (a1_2 : Bool) : Option (Int × Int) := spec_Miller.l0 k 8 a0_0 a0_1 a0_2 a1_0 a1_1 a1_2 1 0 a0_0 a0_1 a0_2
def spec_Miller.T6 : Bool × List (List Nat × List Nat) := (true, [([], []), ([], []), ([0, 1], [0, 1]), ([], []), ([], []), ([], []), ([3, 4, 5, 2], [3, 4, 5]), ([2, 6, 6], [2, 6]), ([7, 7, 0, 1, 2, 3, 4, 5, 6, 7], [7])])
def spec_Miller.B6 : List Nat := [0, 0, 3, 0, 0, 0, 63, 127, 255]
theorem spec_Miller.tab6 : rtab .any (opsOf Tryz.f118 6) = spec_Miller.T6 := by kernel_rfl
theorem spec_Miller.bits6 : waitsOk spec_Miller.T6.2 spec_Miller.B6 = true := by kernel_rfl
set_option maxHeartbeats 8000000 in
set_option maxRecDepth 100000 in
theorem spec_Miller.calls (k : Nat) (a0_0 : Int) (a0_1 : Int) (a0_2 : Bool) (a1_0 : Int) (a1_1 : Int) (a1_2 : Bool) (r1 : Int) (r2 : Int) (w : World) (h : spec_Miller.f k a0_0 a0_1 a0_2 a1_0 a1_1 a1_2 = some (r1, r2)) :
  Calls Tryz.prog 118 #[.agg #[.int .i64 a0_0, .int .i64 a0_1, .bool a0_2], .agg #[.int .i64 a1_0, .int .i64 a1_1, .bool a1_2]] w fun e w' => e = .returned (.agg #[.int .i64 r1, .int .i64 r2]) ∧ Below w.heap.size w w' := by
 have hu28 := Tryz.underlying28
 have hu75 := Tryz.underlying75
 have HB := Aside0.mk (Below.refl w.heap.size w)
 have H : (spec_Miller.l0 k 8 a0_0 a0_1 a0_2 a1_0 a1_1 a1_2 1 0 a0_0 a0_1 a0_2) = some (r1, r2) := h
 clear h
 have H' := Aside0.mk H
 clear H
 go_enter Tryz.func118, Tryz.ntmps118
 go_wp2_with (first | (refine gB 2 #[.int .i64 a0_0, .int .i64 a0_1, .bool a0_2] 28 ?_; intro gb614 hg w3 BK614 hb; have GW614 := bG HB hg; replace HB := bS HB hb; clear hb hg) | (refine gB 3 #[.int .i64 a1_0, .int .i64 a1_1, .bool a1_2] 28 ?_; intro gb615 hg w4 BK615 hb; have GW615 := bG HB hg; replace HB := bS HB hb; obtain ⟨NB614_615, NB615_614⟩ := bN BK614 hg; replace BK614 := bB BK614 hb; clear hb hg) | (refine gB 4 #[.int .i64 0, .int .i64 0] 75 ?_; intro gb616 hg w5 BK616 hb; have GW616 := bG HB hg; replace HB := bS HB hb; obtain ⟨NB614_616, NB616_614⟩ := bN BK614 hg; replace BK614 := bB BK614 hb; obtain ⟨NB615_616, NB616_615⟩ := bN BK615 hg; replace BK615 := bB BK615 hb; clear hb hg) | (refine gB 5 #[.int .i64 0, .int .i64 0] 75 ?_; intro gb617 hg w6 BK617 hb; have GW617 := bG HB hg; replace HB := bS HB hb; obtain ⟨NB614_617, NB617_614⟩ := bN BK614 hg; replace BK614 := bB BK614 hb; obtain ⟨NB615_617, NB617_615⟩ := bN BK615 hg; replace BK615 := bB BK615 hb; obtain ⟨NB616_617, NB617_616⟩ := bN BK616 hg; replace BK616 := bB BK616 hb; clear hb hg; obtain ⟨hnb7, hnc7⟩ := nB NB617_614; obtain ⟨hnb8, hnc8⟩ := nB NB617_615; obtain ⟨hnb9, hnc9⟩ := nB NB617_616; obtain ⟨hcz10_0, hcz10_1, hfz10_0, hfz10_1⟩ := bK2 (w := w6) BK617; obtain ⟨hnb11, hnc11⟩ := nB NB614_615; obtain ⟨hnb12, hnc12⟩ := nB NB614_616; obtain ⟨hcz13_0, hcz13_1, hcz13_2, hfz13_0, hfz13_1, hfz13_2⟩ := bK3 (w := w6) BK614) | (refine gB 6 #[.int .i64 0, .int .i64 0, .bool false] 28 ?_; intro gb618 hg w14 BK618 hb; have GW618 := bG HB hg; replace HB := bS HB hb; obtain ⟨NB614_618, NB618_614⟩ := bN BK614 hg; replace BK614 := bB BK614 hb; obtain ⟨NB615_618, NB618_615⟩ := bN BK615 hg; replace BK615 := bB BK615 hb; obtain ⟨NB616_618, NB618_616⟩ := bN BK616 hg; replace BK616 := bB BK616 hb; have NB617_618 := Aside0.mk ((by rw [hg]; exact Nat.ne_of_lt (blk_lt (g := gb617) (o := .cells #[.int .i64 1, .int .i64 0] 75 (0, 0)) (bU BK617)) : gb617 ≠ gb618)); have NB618_617 := Aside0.mk ((by rw [hg]; exact Nat.ne_of_gt (blk_lt (g := gb617) (o := .cells #[.int .i64 1, .int .i64 0] 75 (0, 0)) (bU BK617)) : gb618 ≠ gb617)); replace BK617 := bV 75 #[.int .i64 1, .int .i64 0] BK617 hb; clear hb hg; obtain ⟨hnb15, hnc15⟩ := nB NB618_614; obtain ⟨hnb16, hnc16⟩ := nB NB618_615; obtain ⟨hnb17, hnc17⟩ := nB NB618_616; obtain ⟨hnb18, hnc18⟩ := nB NB618_617; obtain ⟨hcz19_0, hcz19_1, hcz19_2, hfz19_0, hfz19_1, hfz19_2⟩ := bK3 (w := w14) BK618))
 go_loopg [7] k (fun kq v7 w' => ∃ (x7_1 : Int) (x618000_1 : Int) (x618001_1 : Int) (x619000_1 : Int) (x619001_1 : Int) (x619002_1 : Bool), v7 = .int .i64 x7_1 ∧ Aside0 (spec_Miller.l0 kq x7_1 a0_0 a0_1 a0_2 a1_0 a1_1 a1_2 x618000_1 x618001_1 x619000_1 x619001_1 x619002_1 = some (r1, r2)) ∧ Aside0 (kq ≤ k) ∧ Aside0 (w'.heap[gb614]? = some (.cells #[.int .i64 a0_0, .int .i64 a0_1, .bool a0_2] 28 (0, 0))) ∧ Aside0 (w'.heap[gb615]? = some (.cells #[.int .i64 a1_0, .int .i64 a1_1, .bool a1_2] 28 (0, 0))) ∧ Aside0 (w'.heap[gb616]? = some (.cells #[.int .i64 0, .int .i64 0] 75 (0, 0))) ∧ Aside0 (w'.heap[gb617]? = some (.cells #[.int .i64 x618000_1, .int .i64 x618001_1] 75 (0, 0))) ∧ Aside0 (w'.heap[gb618]? = some (.cells #[.int .i64 x619000_1, .int .i64 x619001_1, .bool x619002_1] 28 (0, 0))) ∧ Aside0 (Below w.heap.size w w'))
 case atStart => exact ⟨(8), (1), (0), (a0_0), (a0_1), (a0_2), rS, H', ⟨Nat.le_refl _⟩, ⟨bP BK614⟩, ⟨bP BK615⟩, ⟨bP BK616⟩, ⟨bP BK617⟩, ⟨bU BK618⟩, ⟨bZ HB⟩⟩
 case round =>
  clear H'
  try clear c1
  try clear p2
  try clear c7
  try clear c8
  try clear c9
  try clear c11
  try clear c12
  try clear c15
  try clear c16
  try clear c17
  try clear c18
  try clear hcz10_0
  try clear hcz10_1
  try clear hcz13_0
  try clear hcz13_1
  try clear hcz13_2
  try clear hcz19_0
  try clear hcz19_1
  try clear hcz19_2
  try clear hfz10_0
  try clear hfz10_1
  try clear hfz13_0
  try clear hfz13_1
  try clear hfz13_2
  try clear hfz19_0
  try clear hfz19_1
  try clear hfz19_2
  obtain ⟨x7_1, x618000_1, x618001_1, x619000_1, x619001_1, x619002_1, rfl, HA, HK1, BK614, BK615, BK616, BK617, BK618, HB⟩ := hrel
  cases gk with
  | zero => exact absurd HA.out (by simp [spec_Miller.l0])
  | succ k1 =>
   have H := HA.out
   clear HA
   simp only [spec_Miller.l0] at H
   by_cases c20 : x7_1 ≥ 0
   ·rw [if_pos c20] at H
    have c20b0 := decide_eq_true c20
    clear c20
    replace H := Option.bind_eq_some_iff.mp H
    obtain ⟨⟨t619, t620⟩, A210, H⟩ := H
    have A21 := Aside0.mk A210
    clear A210
    replace H := Option.bind_eq_some_iff.mp H
    obtain ⟨⟨t621, t622⟩, A220, H⟩ := H
    have A22 := Aside0.mk A220
    clear A220
    replace H := Option.bind_eq_some_iff.mp H
    obtain ⟨⟨t623, t624⟩, A230, H⟩ := H
    have A23 := Aside0.mk A230
    clear A230
    replace H := Option.bind_eq_some_iff.mp H
    obtain ⟨⟨t625, t626, t627⟩, A240, H⟩ := H
    have A24 := Aside0.mk A240
    clear A240
    obtain ⟨ji25, hji25⟩ : ∃ j_ : Int, (IntKind.u64.wrap (x7_1)) = j_ := ⟨_, rfl⟩
    replace H : (if 0 ≤ (ji25) then (if ((shr .i64 1009 (ji25)) % 2) = 1 then ((spec_PairLine.f k1 t625 t626 t627 a0_0 a0_1 a0_2 a1_0 a1_1 a1_2).bind fun bt628 => ((spec_TwoMul.f t623 t624 bt628.1 bt628.2).bind fun bt630 => ((spec_PointAdd.f k1 t625 t626 t627 a0_0 a0_1 a0_2).bind fun bt632 => (spec_Miller.l0 k1 (wrap64 (x7_1 - 1)) a0_0 a0_1 a0_2 a1_0 a1_1 a1_2 bt630.1 bt630.2 bt632.1 bt632.2.1 bt632.2.2)))) else (spec_Miller.l0 k1 (wrap64 (x7_1 - 1)) a0_0 a0_1 a0_2 a1_0 a1_1 a1_2 t623 t624 t625 t626 t627)) else (none)) = some (r1, r2) := by first | (rw [hji25] at H; exact H) | (simp only [hji25] at H ⊢; exact H)
    (try rw [hji25] at A21)
    (try rw [hji25] at A22)
    (try rw [hji25] at A23)
    (try rw [hji25] at A24)
    by_cases c26 : 0 ≤ (ji25)
    ·rw [if_pos c26] at H
     have c26b0 := eq_true c26
     have c26b1 := decide_eq_true c26
     clear c26
     obtain ⟨ji27, hji27⟩ : ∃ j_ : Int, (shr .i64 1009 (ji25)) = j_ := ⟨_, rfl⟩
     replace H : (if ((ji27) % 2) = 1 then ((spec_PairLine.f k1 t625 t626 t627 a0_0 a0_1 a0_2 a1_0 a1_1 a1_2).bind fun bt628 => ((spec_TwoMul.f t623 t624 bt628.1 bt628.2).bind fun bt630 => ((spec_PointAdd.f k1 t625 t626 t627 a0_0 a0_1 a0_2).bind fun bt632 => (spec_Miller.l0 k1 (wrap64 (x7_1 - 1)) a0_0 a0_1 a0_2 a1_0 a1_1 a1_2 bt630.1 bt630.2 bt632.1 bt632.2.1 bt632.2.2)))) else (spec_Miller.l0 k1 (wrap64 (x7_1 - 1)) a0_0 a0_1 a0_2 a1_0 a1_1 a1_2 t623 t624 t625 t626 t627)) = some (r1, r2) := by first | (rw [hji27] at H; exact H) | (simp only [hji27] at H ⊢; exact H)
     (try rw [hji27] at A21)
     (try rw [hji27] at A22)
     (try rw [hji27] at A23)
     (try rw [hji27] at A24)
     have hji27_ : (1009 / 2 ^ min (ji25).toNat 64) = ji27 := hji27
     have hji27z : (ji25) ≤ 64 → (1009 / 2 ^ (ji25).toNat) = ji27 := shr_small hji27
     have hji27t : ∀ m_ : Int, Int.tmod ji27 m_ = ji27 % m_ := fun m_ => Int.tmod_eq_emod_of_nonneg (by rw [← hji27_]; exact Int.ediv_nonneg (by decide) (Int.le_of_lt (Int.pow_pos (by decide))))
     by_cases c28 : ((ji27) % 2) = 1
     ·rw [if_pos c28] at H
      have c28b0 : (((ji27) % 2) == 1) = true := beq_iff_eq.mpr c28
      have c28b1 : (((ji27) % 2) != 1) = false := bne_eq_false_iff_eq.mpr c28
      clear c28
      replace H := Option.bind_eq_some_iff.mp H
      obtain ⟨⟨t628, t629⟩, A290, H⟩ := H
      have A29 := Aside0.mk A290
      clear A290
      replace H := Option.bind_eq_some_iff.mp H
      obtain ⟨⟨t630, t631⟩, A300, H⟩ := H
      have A30 := Aside0.mk A300
      clear A300
      replace H := Option.bind_eq_some_iff.mp H
      obtain ⟨⟨t632, t633, t634⟩, A310, H⟩ := H
      have A31 := Aside0.mk A310
      clear A310
      have H' := Aside0.mk H
      clear H
      try go_wp2
      replace BK614 := Aside0.mk (blk_drew BK614.out)
      replace BK615 := Aside0.mk (blk_drew BK615.out)
      replace BK616 := Aside0.mk (blk_drew BK616.out)
      replace BK617 := Aside0.mk (blk_drew BK617.out)
      replace BK618 := Aside0.mk (blk_drew BK618.out)
      replace HB := Aside0.mk (below_drew1 HB.out)
      refine start_ (n := 9) (S := fun w' => SP2 w' gb617 (.int .i64 x618000_1) (.int .i64 x618001_1) (SP3 w' gb618 (.int .i64 x619000_1) (.int .i64 x619001_1) (.bool x619002_1) (SQ3 w' gb615 (.int .i64 a1_0) (.int .i64 a1_1) (.bool a1_2)))) (ds := [8]) #[false, false, false, false, false, false, false, false, false] (by kernel_rfl) rfl rfl (bS2 BK617 (bS3 BK618 (bT3 BK615))) (fun hHeld => ?_); refine with_tabW spec_Miller.tab6 spec_Miller.bits6 (fun HT_ HW_ => ?_)
      generalize wr.drew = w32 at BK614 BK615 BK616 BK617 BK618 HB hHeld ⊢
      refine tI8 0 (some 14) HT_.out HW_.out hHeld ?_
      refine tI8 1 (some 15) HT_.out HW_.out hHeld ?_
      refine tI8 3 (some 17) HT_.out HW_.out hHeld ?_
      refine tI8 4 (some 18) HT_.out HW_.out hHeld ?_
      refine tI8 5 (some 19) HT_.out HW_.out hHeld ?_
      refine oI 2 (some 16) HT_.out (fun K hK => ?_)
      refine gO Tryz.func120 #[.agg #[.int .i64 x618000_1, .int .i64 x618001_1], .agg #[.int .i64 x618000_1, .int .i64 x618001_1]] ?_
      with_reducible refine (spec_TwoMul.calls x618000_1 x618001_1 x618000_1 x618001_1 t619 t620 _ A21.out).mono ?_
      rintro e w33 ⟨rfl, hb⟩
      refine ⟨_, rfl, ?_⟩
      replace BK614 := bB BK614 hb
      replace BK615 := bB BK615 hb
      replace BK616 := bB BK616 hb
      replace BK617 := bB BK617 hb
      replace BK618 := bB BK618 hb
      replace HB := bS HB hb
      (try clear hb)
      refine hK.out _ _ (bS2 BK617 (bS3 BK618 (bT3 BK615))) (fun hHeld => ?_)
      clear hK K
      refine nO (some 16) ?_
      refine oI 6 (some 20) HT_.out (fun K hK => ?_)
      refine gO Tryz.func141 #[.agg #[.int .i64 x619000_1, .int .i64 x619001_1, .bool x619002_1], .agg #[.int .i64 x619000_1, .int .i64 x619001_1, .bool x619002_1], .agg #[.int .i64 a1_0, .int .i64 a1_1, .bool a1_2]] ?_
      with_reducible refine (spec_PairLine.calls k1 x619000_1 x619001_1 x619002_1 x619000_1 x619001_1 x619002_1 a1_0 a1_1 a1_2 t621 t622 _ A22.out).mono ?_
      rintro e w34 ⟨rfl, hb⟩
      refine ⟨_, rfl, ?_⟩
      replace BK614 := bB BK614 hb
      replace BK615 := bB BK615 hb
      replace BK616 := bB BK616 hb
      replace BK617 := bB BK617 hb
      replace BK618 := bB BK618 hb
      replace HB := bS HB hb
      (try clear hb)
      refine hK.out _ _ (bS2 BK617 (bS3 BK618 (bT3 BK615))) (fun hHeld => ?_)
      clear hK K
      refine nO (some 20) ?_
      refine oI 7 (some 21) HT_.out (fun K hK => ?_)
      refine gO Tryz.func120 #[.agg #[.int .i64 t619, .int .i64 t620], .agg #[.int .i64 t621, .int .i64 t622]] ?_
      with_reducible refine (spec_TwoMul.calls t619 t620 t621 t622 t623 t624 _ A23.out).mono ?_
      rintro e w35 ⟨rfl, hb⟩
      refine ⟨_, rfl, ?_⟩
      replace BK614 := bB BK614 hb
      replace BK615 := bB BK615 hb
      replace BK616 := bB BK616 hb
      replace BK617 := bB BK617 hb
      replace BK618 := bB BK618 hb
      replace HB := bS HB hb
      (try clear hb)
      refine hK.out _ _ (bS2 BK617 (bS3 BK618 (bT3 BK615))) (fun hHeld => ?_)
      clear hK K
      refine nO (some 21) ?_
      refine last_ (i := 8) (N := none) #[true, true, true, true, true, true, true, true, true] rfl rfl (one_of HT_.out (by kernel_rfl)) (by decide) (fun K hK => ?_)
      have hs36 : w35.cell? ⟨gb617, 0, none⟩ = some (.int .i64 x618000_1) := bc BK617 0
      have hfs36 := blk_frozen BK617.out 0
      have hns36_0 := NB614_617.out
      have hns36_1 := NB615_617.out
      have hns36_2 := NB616_617.out
      have hns36_4 := NB618_617.out
      have hms36_0 := NB617_614.out
      have hms36_1 := NB617_615.out
      have hms36_2 := NB617_616.out
      have hms36_4 := NB617_618.out
      have hs37 : w35.cell? ⟨gb617, 1, none⟩ = some (.int .i64 x618001_1) := bc BK617 1
      have hfs37 := blk_frozen BK617.out 1
      have hns37_0 := NB614_617.out
      have hns37_1 := NB615_617.out
      have hns37_2 := NB616_617.out
      have hns37_4 := NB618_617.out
      have hms37_0 := NB617_614.out
      have hms37_1 := NB617_615.out
      have hms37_2 := NB617_616.out
      have hms37_4 := NB617_618.out
      refine skip_ (w1 := ?_) (by rfl) rfl ?_ ?_
      rotate_left
      ·go_simp
       rfl
      refine hK.out _ _ ?_
      clear hK K
      refine done_ (done_of HT_.out (by kernel_rfl)) ?_
      obtain ⟨hnb38, hnc38⟩ := nB NB618_614
      obtain ⟨hnb39, hnc39⟩ := nB NB618_615
      obtain ⟨hnb40, hnc40⟩ := nB NB618_616
      obtain ⟨hnb41, hnc41⟩ := nB NB618_617
      obtain ⟨hcz42_0, hcz42_1, hcz42_2, hfz42_0, hfz42_1, hfz42_2⟩ := bK3 (w := w35) BK618
      try go_wp2_with (first | (refine gC (some 24) Tryz.func92 #[.agg #[.int .i64 x619000_1, .int .i64 x619001_1, .bool x619002_1], .agg #[.int .i64 x619000_1, .int .i64 x619001_1, .bool x619002_1]] ?_; (with_reducible refine (spec_PointAdd.calls k1 x619000_1 x619001_1 x619002_1 x619000_1 x619001_1 x619002_1 t625 t626 t627 _ A24.out).mono ?_); rintro e w43 ⟨rfl, hb⟩; refine ⟨_, rfl, ?_⟩; replace BK614 := bB BK614 hb; replace BK615 := bB BK615 hb; replace BK616 := bB BK616 hb; replace BK617 := bV 75 #[.int .i64 t623, .int .i64 t624] BK617 hb; replace BK618 := bB BK618 hb; replace HB := bS HB hb; (try clear hb); obtain ⟨hcz44_0, hcz44_1, hcz44_2, hfz44_0, hfz44_1, hfz44_2⟩ := bK3 (w := w43) BK618))
      obtain ⟨w45, hW_⟩ : ∃ W_ : World, W_ = (((w43.setCell ⟨gb618, 0, none⟩ (.int .i64 t625)).setCell ⟨gb618, 1, none⟩ (.int .i64 t626)).setCell ⟨gb618, 2, none⟩ (.bool t627)) := ⟨_, rfl⟩
      replace BK614 := bW hW_ BK614
      replace BK615 := bW hW_ BK615
      replace BK616 := bW hW_ BK616
      replace BK617 := bW hW_ BK617
      replace BK618 := bX hW_ 28 #[.int .i64 t625, .int .i64 t626, .bool t627] BK618
      replace HB := zW hW_ HB
      rw [← hW_]
      clear hW_
      replace BK614 := Aside0.mk (blk_drew BK614.out)
      replace BK615 := Aside0.mk (blk_drew BK615.out)
      replace BK616 := Aside0.mk (blk_drew BK616.out)
      replace BK617 := Aside0.mk (blk_drew BK617.out)
      replace BK618 := Aside0.mk (blk_drew BK618.out)
      replace HB := Aside0.mk (below_drew1 HB.out)
      refine start_ (n := 7) (S := fun w' => SP2 w' gb617 (.int .i64 t623) (.int .i64 t624) (SP3 w' gb618 (.int .i64 t625) (.int .i64 t626) (.bool t627) (SP3 w' gb614 (.int .i64 a0_0) (.int .i64 a0_1) (.bool a0_2) (SQ3 w' gb615 (.int .i64 a1_0) (.int .i64 a1_1) (.bool a1_2))))) (ds := [6]) #[false, false, false, false, false, false, false] (by kernel_rfl) rfl rfl (bS2 BK617 (bS3 BK618 (bS3 BK614 (bT3 BK615)))) (fun hHeld => ?_)
      generalize w45.drew = w46 at BK614 BK615 BK616 BK617 BK618 HB hHeld ⊢
      refine tJ 0 (some 30) hHeld ?_
      refine tJ 1 (some 31) hHeld ?_
      refine tJ 2 (some 32) hHeld ?_
      refine tJ 3 (some 33) hHeld ?_
      refine one_ (i := 4) (N := some 34) #[true, true, true, true, true, false, false] rfl rfl (by kernel_rfl) (by decide) (fun K hK => ?_)
      refine gO Tryz.func141 #[.agg #[.int .i64 t625, .int .i64 t626, .bool t627], .agg #[.int .i64 a0_0, .int .i64 a0_1, .bool a0_2], .agg #[.int .i64 a1_0, .int .i64 a1_1, .bool a1_2]] ?_
      with_reducible refine (spec_PairLine.calls k1 t625 t626 t627 a0_0 a0_1 a0_2 a1_0 a1_1 a1_2 t628 t629 _ A29.out).mono ?_
      rintro e w47 ⟨rfl, hb⟩
      refine ⟨_, rfl, ?_⟩
      replace BK614 := bB BK614 hb
      replace BK615 := bB BK615 hb
      replace BK616 := bB BK616 hb
      replace BK617 := bB BK617 hb
      replace BK618 := bB BK618 hb
      replace HB := bS HB hb
      (try clear hb)
      refine hK.out _ _ (bS2 BK617 (bS3 BK618 (bS3 BK614 (bT3 BK615)))) (fun hHeld => ?_)
      clear hK K
      refine nO (some 34) ?_
      refine one_ (i := 5) (N := some 35) #[true, true, true, true, true, true, false] rfl rfl (by kernel_rfl) (by decide) (fun K hK => ?_)
      refine gO Tryz.func120 #[.agg #[.int .i64 t623, .int .i64 t624], .agg #[.int .i64 t628, .int .i64 t629]] ?_
      with_reducible refine (spec_TwoMul.calls t623 t624 t628 t629 t630 t631 _ A30.out).mono ?_
      rintro e w48 ⟨rfl, hb⟩
      refine ⟨_, rfl, ?_⟩
      replace BK614 := bB BK614 hb
      replace BK615 := bB BK615 hb
      replace BK616 := bB BK616 hb
      replace BK617 := bB BK617 hb
      replace BK618 := bB BK618 hb
      replace HB := bS HB hb
      (try clear hb)
      refine hK.out _ _ (bS2 BK617 (bS3 BK618 (bS3 BK614 (bT3 BK615)))) (fun hHeld => ?_)
      clear hK K
      refine nO (some 35) ?_
      refine last_ (i := 6) (N := none) #[true, true, true, true, true, true, true] rfl rfl (by kernel_rfl) (by decide) (fun K hK => ?_)
      have hs49 : w48.cell? ⟨gb617, 0, none⟩ = some (.int .i64 t623) := bc BK617 0
      have hfs49 := blk_frozen BK617.out 0
      have hns49_0 := NB614_617.out
      have hns49_1 := NB615_617.out
      have hns49_2 := NB616_617.out
      have hns49_4 := NB618_617.out
      have hms49_0 := NB617_614.out
      have hms49_1 := NB617_615.out
      have hms49_2 := NB617_616.out
      have hms49_4 := NB617_618.out
      have hs50 : w48.cell? ⟨gb617, 1, none⟩ = some (.int .i64 t624) := bc BK617 1
      have hfs50 := blk_frozen BK617.out 1
      have hns50_0 := NB614_617.out
      have hns50_1 := NB615_617.out
      have hns50_2 := NB616_617.out
      have hns50_4 := NB618_617.out
      have hms50_0 := NB617_614.out
      have hms50_1 := NB617_615.out
      have hms50_2 := NB617_616.out
      have hms50_4 := NB617_618.out
      refine skip_ (w1 := ?_) (by rfl) rfl ?_ ?_
      rotate_left
      ·go_simp
       rfl
      refine hK.out _ _ ?_
      clear hK K
      refine done_ (by kernel_rfl) ?_
      obtain ⟨hcz51_0, hcz51_1, hcz51_2, hfz51_0, hfz51_1, hfz51_2⟩ := bK3 (w := w48) BK618
      obtain ⟨hnb52, hnc52⟩ := nB NB614_615
      obtain ⟨hnb53, hnc53⟩ := nB NB614_616
      obtain ⟨hnb54, hnc54⟩ := nB NB614_617
      obtain ⟨hcz55_0, hcz55_1, hcz55_2, hfz55_0, hfz55_1, hfz55_2⟩ := bK3 (w := w48) BK614
      try go_wp2_with (first | (refine gC (some 38) Tryz.func92 #[.agg #[.int .i64 t625, .int .i64 t626, .bool t627], .agg #[.int .i64 a0_0, .int .i64 a0_1, .bool a0_2]] ?_; (with_reducible refine (spec_PointAdd.calls k1 t625 t626 t627 a0_0 a0_1 a0_2 t632 t633 t634 _ A31.out).mono ?_); rintro e w56 ⟨rfl, hb⟩; refine ⟨_, rfl, ?_⟩; replace BK614 := bB BK614 hb; replace BK615 := bB BK615 hb; replace BK616 := bB BK616 hb; replace BK617 := bV 75 #[.int .i64 t630, .int .i64 t631] BK617 hb; replace BK618 := bB BK618 hb; replace HB := bS HB hb; (try clear hb); obtain ⟨hcz57_0, hcz57_1, hcz57_2, hfz57_0, hfz57_1, hfz57_2⟩ := bK3 (w := w56) BK618))
      go_roundg k1
      case measure => have := HK1.out; omega
      case rel => exact ⟨(wrap64 (x7_1 - 1)), (t630), (t631), (t632), (t633), (t634), rS, H', ⟨by have := HK1.out; omega⟩, ⟨bP BK614⟩, ⟨bP BK615⟩, ⟨bP BK616⟩, ⟨bP BK617⟩, ⟨bU BK618⟩, ⟨bZ HB⟩⟩
     ·rw [if_neg c28] at H
      have c28b0 : (((ji27) % 2) == 1) = false := beq_eq_false_iff_ne.mpr c28
      have c28b1 : (((ji27) % 2) != 1) = true := bne_iff_ne.mpr c28
      have H' := Aside0.mk H
      clear H
      try go_wp2
      replace BK614 := Aside0.mk (blk_drew BK614.out)
      replace BK615 := Aside0.mk (blk_drew BK615.out)
      replace BK616 := Aside0.mk (blk_drew BK616.out)
      replace BK617 := Aside0.mk (blk_drew BK617.out)
      replace BK618 := Aside0.mk (blk_drew BK618.out)
      replace HB := Aside0.mk (below_drew1 HB.out)
      refine start_ (n := 9) (S := fun w' => SP2 w' gb617 (.int .i64 x618000_1) (.int .i64 x618001_1) (SP3 w' gb618 (.int .i64 x619000_1) (.int .i64 x619001_1) (.bool x619002_1) (SQ3 w' gb615 (.int .i64 a1_0) (.int .i64 a1_1) (.bool a1_2)))) (ds := [8]) #[false, false, false, false, false, false, false, false, false] (by kernel_rfl) rfl rfl (bS2 BK617 (bS3 BK618 (bT3 BK615))) (fun hHeld => ?_); refine with_tabW spec_Miller.tab6 spec_Miller.bits6 (fun HT_ HW_ => ?_)
      generalize wr.drew = w58 at BK614 BK615 BK616 BK617 BK618 HB hHeld ⊢
      refine tI8 0 (some 14) HT_.out HW_.out hHeld ?_
      refine tI8 1 (some 15) HT_.out HW_.out hHeld ?_
      refine tI8 3 (some 17) HT_.out HW_.out hHeld ?_
      refine tI8 4 (some 18) HT_.out HW_.out hHeld ?_
      refine tI8 5 (some 19) HT_.out HW_.out hHeld ?_
      refine oI 2 (some 16) HT_.out (fun K hK => ?_)
      refine gO Tryz.func120 #[.agg #[.int .i64 x618000_1, .int .i64 x618001_1], .agg #[.int .i64 x618000_1, .int .i64 x618001_1]] ?_
      with_reducible refine (spec_TwoMul.calls x618000_1 x618001_1 x618000_1 x618001_1 t619 t620 _ A21.out).mono ?_
      rintro e w59 ⟨rfl, hb⟩
      refine ⟨_, rfl, ?_⟩
      replace BK614 := bB BK614 hb
      replace BK615 := bB BK615 hb
      replace BK616 := bB BK616 hb
      replace BK617 := bB BK617 hb
      replace BK618 := bB BK618 hb
      replace HB := bS HB hb
      (try clear hb)
      refine hK.out _ _ (bS2 BK617 (bS3 BK618 (bT3 BK615))) (fun hHeld => ?_)
      clear hK K
      refine nO (some 16) ?_
      refine oI 6 (some 20) HT_.out (fun K hK => ?_)
      refine gO Tryz.func141 #[.agg #[.int .i64 x619000_1, .int .i64 x619001_1, .bool x619002_1], .agg #[.int .i64 x619000_1, .int .i64 x619001_1, .bool x619002_1], .agg #[.int .i64 a1_0, .int .i64 a1_1, .bool a1_2]] ?_
      with_reducible refine (spec_PairLine.calls k1 x619000_1 x619001_1 x619002_1 x619000_1 x619001_1 x619002_1 a1_0 a1_1 a1_2 t621 t622 _ A22.out).mono ?_
      rintro e w60 ⟨rfl, hb⟩
      refine ⟨_, rfl, ?_⟩
      replace BK614 := bB BK614 hb
      replace BK615 := bB BK615 hb
      replace BK616 := bB BK616 hb
      replace BK617 := bB BK617 hb
      replace BK618 := bB BK618 hb
      replace HB := bS HB hb
      (try clear hb)
      refine hK.out _ _ (bS2 BK617 (bS3 BK618 (bT3 BK615))) (fun hHeld => ?_)
      clear hK K
      refine nO (some 20) ?_
      refine oI 7 (some 21) HT_.out (fun K hK => ?_)
      refine gO Tryz.func120 #[.agg #[.int .i64 t619, .int .i64 t620], .agg #[.int .i64 t621, .int .i64 t622]] ?_
      with_reducible refine (spec_TwoMul.calls t619 t620 t621 t622 t623 t624 _ A23.out).mono ?_
      rintro e w61 ⟨rfl, hb⟩
      refine ⟨_, rfl, ?_⟩
      replace BK614 := bB BK614 hb
      replace BK615 := bB BK615 hb
      replace BK616 := bB BK616 hb
      replace BK617 := bB BK617 hb
      replace BK618 := bB BK618 hb
      replace HB := bS HB hb
      (try clear hb)
      refine hK.out _ _ (bS2 BK617 (bS3 BK618 (bT3 BK615))) (fun hHeld => ?_)
      clear hK K
      refine nO (some 21) ?_
      refine last_ (i := 8) (N := none) #[true, true, true, true, true, true, true, true, true] rfl rfl (one_of HT_.out (by kernel_rfl)) (by decide) (fun K hK => ?_)
      have hs62 : w61.cell? ⟨gb617, 0, none⟩ = some (.int .i64 x618000_1) := bc BK617 0
      have hfs62 := blk_frozen BK617.out 0
      have hns62_0 := NB614_617.out
      have hns62_1 := NB615_617.out
      have hns62_2 := NB616_617.out
      have hns62_4 := NB618_617.out
      have hms62_0 := NB617_614.out
      have hms62_1 := NB617_615.out
      have hms62_2 := NB617_616.out
      have hms62_4 := NB617_618.out
      have hs63 : w61.cell? ⟨gb617, 1, none⟩ = some (.int .i64 x618001_1) := bc BK617 1
      have hfs63 := blk_frozen BK617.out 1
      have hns63_0 := NB614_617.out
      have hns63_1 := NB615_617.out
      have hns63_2 := NB616_617.out
      have hns63_4 := NB618_617.out
      have hms63_0 := NB617_614.out
      have hms63_1 := NB617_615.out
      have hms63_2 := NB617_616.out
      have hms63_4 := NB617_618.out
      refine skip_ (w1 := ?_) (by rfl) rfl ?_ ?_
      rotate_left
      ·go_simp
       rfl
      refine hK.out _ _ ?_
      clear hK K
      refine done_ (done_of HT_.out (by kernel_rfl)) ?_
      obtain ⟨hnb64, hnc64⟩ := nB NB618_614
      obtain ⟨hnb65, hnc65⟩ := nB NB618_615
      obtain ⟨hnb66, hnc66⟩ := nB NB618_616
      obtain ⟨hnb67, hnc67⟩ := nB NB618_617
      obtain ⟨hcz68_0, hcz68_1, hcz68_2, hfz68_0, hfz68_1, hfz68_2⟩ := bK3 (w := w61) BK618
      try go_wp2_with (first | (refine gC (some 24) Tryz.func92 #[.agg #[.int .i64 x619000_1, .int .i64 x619001_1, .bool x619002_1], .agg #[.int .i64 x619000_1, .int .i64 x619001_1, .bool x619002_1]] ?_; (with_reducible refine (spec_PointAdd.calls k1 x619000_1 x619001_1 x619002_1 x619000_1 x619001_1 x619002_1 t625 t626 t627 _ A24.out).mono ?_); rintro e w69 ⟨rfl, hb⟩; refine ⟨_, rfl, ?_⟩; replace BK614 := bB BK614 hb; replace BK615 := bB BK615 hb; replace BK616 := bB BK616 hb; replace BK617 := bV 75 #[.int .i64 t623, .int .i64 t624] BK617 hb; replace BK618 := bB BK618 hb; replace HB := bS HB hb; (try clear hb); obtain ⟨hcz70_0, hcz70_1, hcz70_2, hfz70_0, hfz70_1, hfz70_2⟩ := bK3 (w := w69) BK618))
      go_roundg k1
      case measure => have := HK1.out; omega
      case rel => exact ⟨(wrap64 (x7_1 - 1)), (t623), (t624), (t625), (t626), (t627), rS, H', ⟨by have := HK1.out; omega⟩, ⟨bP BK614⟩, ⟨bP BK615⟩, ⟨bP BK616⟩, ⟨bP BK617⟩, ⟨bU BK618⟩, ⟨bZ HB⟩⟩
    ·rw [if_neg c26] at H
     exact absurd H (by simp)
   ·rw [if_neg c20] at H
    have c20b0 := decide_eq_false c20
    clear c20
    simp only [Option.some.injEq, Prod.mk.injEq] at H
    obtain ⟨rfl, rfl⟩ := H
    obtain ⟨hnb71, hnc71⟩ := nB NB617_614
    obtain ⟨hnb72, hnc72⟩ := nB NB617_615
    obtain ⟨hnb73, hnc73⟩ := nB NB617_616
    obtain ⟨hnb74, hnc74⟩ := nB NB617_618
    obtain ⟨hcz75_0, hcz75_1, hfz75_0, hfz75_1⟩ := bK2 (w := wr) BK617
    obtain ⟨hnb76, hnc76⟩ := nB NB616_614
    obtain ⟨hnb77, hnc77⟩ := nB NB616_615
    obtain ⟨hnb78, hnc78⟩ := nB NB616_618
    obtain ⟨hcz79_0, hcz79_1, hfz79_0, hfz79_1⟩ := bK2 (w := wr) BK616
    go_wp2
    refine rC gb616 75 #[.int .i64 x618000_1, .int .i64 x618001_1] (bU BK616) Tryz.underlying75 ?_
    exact ⟨rR, bZ HB⟩
def spec_TwoPow.l0 : Nat → Int → Int → Int → Int → Int → Option (Int × Int)
 | 0, _, _, _, _, _ => none
 | k + 1, x1, x638000, x638001, x641000, x641001 => if x1 > 0 then (if (Int.tmod x1 2) = 1 then ((spec_TwoMul.f x638000 x638001 x641000 x641001).bind fun bt641 => ((spec_TwoMul.f x641000 x641001 x641000 x641001).bind fun bt643 => (spec_TwoPow.l0 k (wrap64 (Int.tdiv x1 2)) bt641.1 bt641.2 bt643.1 bt643.2))) else ((spec_TwoMul.f x641000 x641001 x641000 x641001).bind fun bt645 => (spec_TwoPow.l0 k (wrap64 (Int.tdiv x1 2)) x638000 x638001 bt645.1 bt645.2))) else (some (x638000, x638001))
def spec_TwoPow.f (k : Nat) (a0_0 : Int) (a0_1 : Int) (a1 : Int) : Option (Int × Int) := if a1 < 0 then (some (0, 0)) else ((spec_FpOf.f a0_0).bind fun t638 => ((spec_FpOf.f a0_1).bind fun t639 => (spec_TwoPow.l0 k a1 1 0 t638 t639)))
def spec_TwoPow.T4 : Bool × List (List Nat × List Nat) := (true, [([], []), ([0], [0]), ([1], [1]), ([], []), ([3], [3]), ([4, 2], [4]), ([2, 5], [2, 5]), ([], []), ([7, 6, 5, 0, 1, 2, 3, 4, 5, 6, 7], [6, 7])])
def spec_TwoPow.B4 : List Nat := [0, 1, 3, 0, 8, 31, 63, 0, 255]
theorem spec_TwoPow.tab4 : rtab .any (opsOf Tryz.f119 4) = spec_TwoPow.T4 := by kernel_rfl
theorem spec_TwoPow.bits4 : waitsOk spec_TwoPow.T4.2 spec_TwoPow.B4 = true := by kernel_rfl
set_option maxHeartbeats 8000000 in
set_option maxRecDepth 100000 in
theorem spec_TwoPow.calls (k : Nat) (a0_0 : Int) (a0_1 : Int) (a1 : Int) (r1 : Int) (r2 : Int) (w : World) (h : spec_TwoPow.f k a0_0 a0_1 a1 = some (r1, r2)) :
  Calls Tryz.prog 119 #[.agg #[.int .i64 a0_0, .int .i64 a0_1], .int .i64 a1] w fun e w' => e = .returned (.agg #[.int .i64 r1, .int .i64 r2]) ∧ Below w.heap.size w w' := by
 have hu75 := Tryz.underlying75
 have HB := Aside0.mk (Below.refl w.heap.size w)
 have H : (if a1 < 0 then (some (0, 0)) else ((spec_FpOf.f a0_0).bind fun t638 => ((spec_FpOf.f a0_1).bind fun t639 => (spec_TwoPow.l0 k a1 1 0 t638 t639)))) = some (r1, r2) := h
 clear h
 by_cases c3 : a1 < 0
 ·rw [if_pos c3] at H
  have c3b0 := decide_eq_true c3
  clear c3
  simp only [Option.some.injEq, Prod.mk.injEq] at H
  obtain ⟨rfl, rfl⟩ := H
  go_enter Tryz.func119, Tryz.ntmps119
  go_wp2_with (first | (refine gB 2 #[.int .i64 a0_0, .int .i64 a0_1] 75 ?_; intro gb635 hg w4 BK635 hb; have GW635 := bG HB hg; replace HB := bS HB hb; clear hb hg) | (refine gB 4 #[.int .i64 0, .int .i64 0] 75 ?_; intro gb636 hg w5 BK636 hb; have GW636 := bG HB hg; replace HB := bS HB hb; obtain ⟨NB635_636, NB636_635⟩ := bN BK635 hg; replace BK635 := bB BK635 hb; clear hb hg; obtain ⟨hnb6, hnc6⟩ := nB NB636_635; obtain ⟨hcz7_0, hcz7_1, hfz7_0, hfz7_1⟩ := bK2 (w := w5) BK636))
  refine rC gb636 75 #[.int .i64 0, .int .i64 0] (bU BK636) Tryz.underlying75 ?_
  exact ⟨rR, bZ HB⟩
 ·rw [if_neg c3] at H
  have c3b0 := decide_eq_false c3
  clear c3
  replace H := Option.bind_eq_some_iff.mp H
  obtain ⟨t638, A80, H⟩ := H
  have A8 := Aside0.mk A80
  clear A80
  replace H := Option.bind_eq_some_iff.mp H
  obtain ⟨t639, A90, H⟩ := H
  have A9 := Aside0.mk A90
  clear A90
  have H' := Aside0.mk H
  clear H
  go_enter Tryz.func119, Tryz.ntmps119
  try go_wp2_with (first | (refine gB 2 #[.int .i64 a0_0, .int .i64 a0_1] 75 ?_; intro gb635 hg w10 BK635 hb; have GW635 := bG HB hg; replace HB := bS HB hb; clear hb hg) | (refine gB 4 #[.int .i64 0, .int .i64 0] 75 ?_; intro gb636 hg w11 BK636 hb; have GW636 := bG HB hg; replace HB := bS HB hb; obtain ⟨NB635_636, NB636_635⟩ := bN BK635 hg; replace BK635 := bB BK635 hb; clear hb hg) | (refine gB 5 #[.int .i64 0, .int .i64 0] 75 ?_; intro gb637 hg w12 BK637 hb; have GW637 := bG HB hg; replace HB := bS HB hb; obtain ⟨NB635_637, NB637_635⟩ := bN BK635 hg; replace BK635 := bB BK635 hb; obtain ⟨NB636_637, NB637_636⟩ := bN BK636 hg; replace BK636 := bB BK636 hb; clear hb hg; obtain ⟨hnb13, hnc13⟩ := nB NB637_635; obtain ⟨hnb14, hnc14⟩ := nB NB637_636; obtain ⟨hcz15_0, hcz15_1, hfz15_0, hfz15_1⟩ := bK2 (w := w12) BK637))
  obtain ⟨w16, hW_⟩ : ∃ W_ : World, W_ = ((w12.setCell ⟨gb637, 0, none⟩ (.int .i64 1)).setCell ⟨gb637, 1, none⟩ (.int .i64 0)) := ⟨_, rfl⟩
  replace BK635 := bW hW_ BK635
  replace BK636 := bW hW_ BK636
  replace BK637 := bX hW_ 75 #[.int .i64 1, .int .i64 0] BK637
  replace HB := zW hW_ HB
  rw [← hW_]
  clear hW_
  replace BK635 := Aside0.mk (blk_drew BK635.out)
  replace BK636 := Aside0.mk (blk_drew BK636.out)
  replace BK637 := Aside0.mk (blk_drew BK637.out)
  replace HB := Aside0.mk (below_drew1 HB.out)
  refine start_ (n := 9) (S := fun w' => SQ2 w' gb635 (.int .i64 a0_0) (.int .i64 a0_1)) (ds := []) #[false, false, false, false, false, false, false, false, false] (by kernel_rfl) rfl rfl (bT2 BK635) (fun hHeld => ?_); refine with_tabW spec_TwoPow.tab4 spec_TwoPow.bits4 (fun HT_ HW_ => ?_)
  generalize w16.drew = w17 at BK635 BK636 BK637 HB hHeld ⊢
  refine pI 0 (some 11) HT_.out ?_
  refine pI 3 (some 14) HT_.out ?_
  refine tI2 1 (some 12) HT_.out HW_.out hHeld ?_
  refine tI2 4 (some 15) HT_.out HW_.out hHeld ?_
  refine join_ (σ := Nat) 1 #[true, true, true, true, true, true, true, true, false] (fun s_ => [(13, .int .i64 t638), (16, .int .i64 t639), (6, .pointer (some ⟨s_, 0, none⟩)), (17, .agg #[.int .i64 t638, .int .i64 t639])]) (fun s_ w' => (w'.cell? ⟨gb635, 0, none⟩ = some (.int .i64 a0_0) ∧ w'.cell? ⟨gb635, 1, none⟩ = some (.int .i64 a0_1)) ∧ (w'.heap[gb635]? = some (.cells #[.int .i64 a0_0, .int .i64 a0_1] 75 (0, 0))) ∧ (w'.heap[gb636]? = some (.cells #[.int .i64 0, .int .i64 0] 75 (0, 0))) ∧ (w'.heap[gb637]? = some (.cells #[.int .i64 1, .int .i64 0] 75 (0, 0))) ∧ (w'.heap[s_]? = some (.cells #[.int .i64 0, .int .i64 0] 75 (0, 0))) ∧ (w.heap.size ≤ s_) ∧ (w.heap.size ≤ s_) ∧ (gb635 ≠ s_) ∧ (s_ ≠ gb635) ∧ (gb636 ≠ s_) ∧ (s_ ≠ gb636) ∧ (gb637 ≠ s_) ∧ (s_ ≠ gb637) ∧ (Below w.heap.size w w')) ?_ ?_
  rotate_left
  ·intro hCont
   refine two_ (i := 2) (j := 7) (Ni := some 13) (Nj := some 6) #[true, true, true, true, true, false, false, false, false] #[true, true, false, true, true, false, false, true, false] rfl rfl rfl rfl (two_of HT_.out (by kernel_rfl)) (by decide) (by decide) (fun K hK => ?_) (fun K hK => ?_)
   ·skip
    refine gO Tryz.func62 #[.int .i64 a0_0] ?_
    with_reducible refine (spec_FpOf.calls a0_0 t638 _ A8.out).mono ?_
    rintro e w' ⟨rfl, ⟨nd, rfl⟩⟩
    refine ⟨_, rfl, ?_⟩
    refine hK.out _ _ (bT2 BK635) (fun hHeld => ?_)
    clear hK K
    refine nO (some 13) ?_
    refine two_ (i := 5) (j := 7) (Ni := some 16) (Nj := some 6) #[true, true, true, true, true, true, false, false, false] #[true, true, true, true, true, false, false, true, false] rfl rfl rfl rfl (two_of HT_.out (by kernel_rfl)) (by decide) (by decide) (fun K hK => ?_) (fun K hK => ?_)
    ·skip
     refine gO Tryz.func62 #[.int .i64 a0_1] ?_
     with_reducible refine (spec_FpOf.calls a0_1 t639 _ A9.out).mono ?_
     rintro e w' ⟨rfl, ⟨nd, rfl⟩⟩
     refine ⟨_, rfl, ?_⟩
     refine hK.out _ _ (bT2 BK635) (fun hHeld => ?_)
     clear hK K
     refine nO (some 16) ?_
     refine pI 6 (some 17) HT_.out ?_
     refine oI 7 (some 6) HT_.out (fun K hK => ?_)
     refine box_step ?hg (N := 6) ?hd (cs := #[.int .i64 0, .int .i64 0]) (t := 75) ?hr ?_; (case hd => rfl); (case hg => rfl); (case hr => first | (go_simp; done) | (go_simp; rfl))
     intro gb640 hg w18 hbox hb
     have BK640 := Aside0.mk (hbox)
     have GW640 := bG HB hg
     have GE640 := bG HB hg
     replace HB := bS HB hb
     have NB635_640 := bL BK635 hg
     have NB640_635 := bR BK635 hg
     replace BK635 := bB BK635 hb
     have NB636_640 := bL BK636 hg
     have NB640_636 := bR BK636 hg
     replace BK636 := bB BK636 hb
     have NB637_640 := bL BK637 hg
     have NB640_637 := bR BK637 hg
     replace BK637 := bB BK637 hb
     clear hb hbox hg
     refine hK.out _ _ (bT2 BK635) (fun hHeld => ?_)
     clear hK K
     refine nO (some 6) ?_
     exact norm_ (by simp only [putAll, Act.put, List.setIfInBounds_toArray, List.set_cons_zero, List.set_cons_succ]) (hCont (gb640) _ ⟨hHeld, (bP BK635), (bP BK636), (bP BK637), (bP BK640), GW640.out, GE640.out, NB635_640.out, NB640_635.out, NB636_640.out, NB640_636.out, NB637_640.out, NB640_637.out, (bZ HB)⟩)
    ·skip
     refine box_step ?hg (N := 6) ?hd (cs := #[.int .i64 0, .int .i64 0]) (t := 75) ?hr ?_; (case hd => rfl); (case hg => rfl); (case hr => first | (go_simp; done) | (go_simp; rfl))
     intro gb640 hg w18 hbox hb
     have BK640 := Aside0.mk (hbox)
     have GW640 := bG HB hg
     have GE640 := bG HB hg
     replace HB := bS HB hb
     have NB635_640 := bL BK635 hg
     have NB640_635 := bR BK635 hg
     replace BK635 := bB BK635 hb
     have NB636_640 := bL BK636 hg
     have NB640_636 := bR BK636 hg
     replace BK636 := bB BK636 hb
     have NB637_640 := bL BK637 hg
     have NB640_637 := bR BK637 hg
     replace BK637 := bB BK637 hb
     clear hb hbox hg
     refine hK.out _ _ (bT2 BK635) (fun hHeld => ?_)
     clear hK K
     refine nO (some 6) ?_
     refine oI 5 (some 16) HT_.out (fun K hK => ?_)
     refine gO Tryz.func62 #[.int .i64 a0_1] ?_
     with_reducible refine (spec_FpOf.calls a0_1 t639 _ A9.out).mono ?_
     rintro e w' ⟨rfl, ⟨nd, rfl⟩⟩
     refine ⟨_, rfl, ?_⟩
     refine hK.out _ _ (bT2 BK635) (fun hHeld => ?_)
     clear hK K
     refine nO (some 16) ?_
     refine pI 6 (some 17) HT_.out ?_
     exact norm_ (by simp only [putAll, Act.put, List.setIfInBounds_toArray, List.set_cons_zero, List.set_cons_succ]) (hCont (gb640) _ ⟨hHeld, (bP BK635), (bP BK636), (bP BK637), (bP BK640), GW640.out, GE640.out, NB635_640.out, NB640_635.out, NB636_640.out, NB640_636.out, NB637_640.out, NB640_637.out, (bZ HB)⟩)
   ·skip
    refine box_step ?hg (N := 6) ?hd (cs := #[.int .i64 0, .int .i64 0]) (t := 75) ?hr ?_; (case hd => rfl); (case hg => rfl); (case hr => first | (go_simp; done) | (go_simp; rfl))
    intro gb640 hg w18 hbox hb
    have BK640 := Aside0.mk (hbox)
    have GW640 := bG HB hg
    have GE640 := bG HB hg
    replace HB := bS HB hb
    have NB635_640 := bL BK635 hg
    have NB640_635 := bR BK635 hg
    replace BK635 := bB BK635 hb
    have NB636_640 := bL BK636 hg
    have NB640_636 := bR BK636 hg
    replace BK636 := bB BK636 hb
    have NB637_640 := bL BK637 hg
    have NB640_637 := bR BK637 hg
    replace BK637 := bB BK637 hb
    clear hb hbox hg
    refine hK.out _ _ (bT2 BK635) (fun hHeld => ?_)
    clear hK K
    refine nO (some 6) ?_
    refine oI 2 (some 13) HT_.out (fun K hK => ?_)
    refine gO Tryz.func62 #[.int .i64 a0_0] ?_
    with_reducible refine (spec_FpOf.calls a0_0 t638 _ A8.out).mono ?_
    rintro e w' ⟨rfl, ⟨nd, rfl⟩⟩
    refine ⟨_, rfl, ?_⟩
    refine hK.out _ _ (bT2 BK635) (fun hHeld => ?_)
    clear hK K
    refine nO (some 13) ?_
    refine oI 5 (some 16) HT_.out (fun K hK => ?_)
    refine gO Tryz.func62 #[.int .i64 a0_1] ?_
    with_reducible refine (spec_FpOf.calls a0_1 t639 _ A9.out).mono ?_
    rintro e w' ⟨rfl, ⟨nd, rfl⟩⟩
    refine ⟨_, rfl, ?_⟩
    refine hK.out _ _ (bT2 BK635) (fun hHeld => ?_)
    clear hK K
    refine nO (some 16) ?_
    refine pI 6 (some 17) HT_.out ?_
    exact norm_ (by simp only [putAll, Act.put, List.setIfInBounds_toArray, List.set_cons_zero, List.set_cons_succ]) (hCont (gb640) _ ⟨hHeld, (bP BK635), (bP BK636), (bP BK637), (bP BK640), GW640.out, GE640.out, NB635_640.out, NB640_635.out, NB636_640.out, NB640_636.out, NB637_640.out, NB640_637.out, (bZ HB)⟩)
  rintro gb640 w19 ⟨hS_, h0_, h1_, h2_, h3_, h4_, h5_, h6_, h7_, h8_, h9_, h10_, h11_, h12_⟩
  replace BK635 : Aside0 (w19.heap[gb635]? = some (.cells #[.int .i64 a0_0, .int .i64 a0_1] 75 (0, 0))) := ⟨h0_⟩
  replace BK636 : Aside0 (w19.heap[gb636]? = some (.cells #[.int .i64 0, .int .i64 0] 75 (0, 0))) := ⟨h1_⟩
  replace BK637 : Aside0 (w19.heap[gb637]? = some (.cells #[.int .i64 1, .int .i64 0] 75 (0, 0))) := ⟨h2_⟩
  have BK640 : Aside0 (w19.heap[gb640]? = some (.cells #[.int .i64 0, .int .i64 0] 75 (0, 0))) := ⟨h3_⟩
  have GW640 : Aside0 (w.heap.size ≤ gb640) := ⟨h4_⟩
  have GE640 : Aside0 (w.heap.size ≤ gb640) := ⟨h5_⟩
  have NB635_640 : Aside0 (gb635 ≠ gb640) := ⟨h6_⟩
  have NB640_635 : Aside0 (gb640 ≠ gb635) := ⟨h7_⟩
  have NB636_640 : Aside0 (gb636 ≠ gb640) := ⟨h8_⟩
  have NB640_636 : Aside0 (gb640 ≠ gb636) := ⟨h9_⟩
  have NB637_640 : Aside0 (gb637 ≠ gb640) := ⟨h10_⟩
  have NB640_637 : Aside0 (gb640 ≠ gb637) := ⟨h11_⟩
  replace HB : Aside0 (Below w.heap.size w w19) := ⟨h12_⟩
  clear h0_ h1_ h2_ h3_ h4_ h5_ h6_ h7_ h8_ h9_ h10_ h11_ h12_
  have hHeld : w19.cell? ⟨gb635, 0, none⟩ = some (.int .i64 a0_0) ∧ w19.cell? ⟨gb635, 1, none⟩ = some (.int .i64 a0_1) := hS_
  refine norm_ (a' := ?_) ?_ ?_
  rotate_left
  ·simp only [putAll, Act.put, List.setIfInBounds_toArray, List.set_cons_zero, List.set_cons_succ]
   rfl
  refine oI 8 (none) HT_.out (fun K hK => ?_)
  have hs20 : w19.cell? ⟨gb640, 0, none⟩ = some (.int .i64 0) := bc BK640 0
  have hfs20 := blk_frozen BK640.out 0
  have hns20_0 := NB635_640.out
  have hns20_1 := NB636_640.out
  have hns20_2 := NB637_640.out
  have hms20_0 := NB640_635.out
  have hms20_1 := NB640_636.out
  have hms20_2 := NB640_637.out
  have hs21 : w19.cell? ⟨gb640, 1, none⟩ = some (.int .i64 0) := bc BK640 1
  have hfs21 := blk_frozen BK640.out 1
  have hns21_0 := NB635_640.out
  have hns21_1 := NB636_640.out
  have hns21_2 := NB637_640.out
  have hms21_0 := NB640_635.out
  have hms21_1 := NB640_636.out
  have hms21_2 := NB640_637.out
  refine skip_ (w1 := ?_) (by rfl) rfl ?_ ?_
  rotate_left
  ·go_simp
   rfl
  refine hK.out _ _ ⟨((cell_far (p := ⟨gb640, _, none⟩) NB635_640.out _).trans (((cell_far (p := ⟨gb640, _, none⟩) NB635_640.out _).trans (hHeld.1)))), ((cell_far (p := ⟨gb640, _, none⟩) NB635_640.out _).trans (((cell_far (p := ⟨gb640, _, none⟩) NB635_640.out _).trans (hHeld.2))))⟩ (fun hHeld => ?_)
  clear hK K
  refine done_ (done_of HT_.out (by kernel_rfl)) ?_
  try go_wp2
  go_loopg [1] k (fun kq v1 w' => ∃ (x1_1 : Int) (x638000_1 : Int) (x638001_1 : Int) (x641000_1 : Int) (x641001_1 : Int), v1 = .int .i64 x1_1 ∧ Aside0 (spec_TwoPow.l0 kq x1_1 x638000_1 x638001_1 x641000_1 x641001_1 = some (r1, r2)) ∧ Aside0 (kq ≤ k) ∧ Aside0 (w'.heap[gb635]? = some (.cells #[.int .i64 a0_0, .int .i64 a0_1] 75 (0, 0))) ∧ Aside0 (w'.heap[gb636]? = some (.cells #[.int .i64 0, .int .i64 0] 75 (0, 0))) ∧ Aside0 (w'.heap[gb637]? = some (.cells #[.int .i64 x638000_1, .int .i64 x638001_1] 75 (0, 0))) ∧ Aside0 (w'.heap[gb640]? = some (.cells #[.int .i64 x641000_1, .int .i64 x641001_1] 75 (0, 0))) ∧ Aside0 (Below w.heap.size w w'))
  case atStart => exact ⟨(a1), (1), (0), (t638), (t639), rS, H', ⟨Nat.le_refl _⟩, ⟨bP BK635⟩, ⟨bP BK636⟩, ⟨bP BK637⟩, ⟨bU BK640⟩, ⟨bZ HB⟩⟩
  case round =>
   clear H'
   try clear c1
   try clear p2
   try clear c3
   try clear c3b0
   try clear c6
   try clear c11
   try clear c13
   try clear c14
   try clear hcz15_0
   try clear hcz15_1
   try clear hcz7_0
   try clear hcz7_1
   try clear hfz15_0
   try clear hfz15_1
   try clear hfz7_0
   try clear hfz7_1
   obtain ⟨x1_1, x638000_1, x638001_1, x641000_1, x641001_1, rfl, HA, HK1, BK635, BK636, BK637, BK640, HB⟩ := hrel
   cases gk with
   | zero => exact absurd HA.out (by simp [spec_TwoPow.l0])
   | succ k1 =>
    have H := HA.out
    clear HA
    simp only [spec_TwoPow.l0] at H
    by_cases c22 : x1_1 > 0
    ·rw [if_pos c22] at H
     have c22b0 := decide_eq_true c22
     clear c22
     by_cases c23 : (Int.tmod x1_1 2) = 1
     ·rw [if_pos c23] at H
      have c23b0 : ((Int.tmod x1_1 2) == 1) = true := beq_iff_eq.mpr c23
      have c23b1 : ((Int.tmod x1_1 2) != 1) = false := bne_eq_false_iff_eq.mpr c23
      clear c23
      replace H := Option.bind_eq_some_iff.mp H
      obtain ⟨⟨t641, t642⟩, A240, H⟩ := H
      have A24 := Aside0.mk A240
      clear A240
      replace H := Option.bind_eq_some_iff.mp H
      obtain ⟨⟨t643, t644⟩, A250, H⟩ := H
      have A25 := Aside0.mk A250
      clear A250
      have H' := Aside0.mk H
      clear H
      obtain ⟨hnb26, hnc26⟩ := nB NB637_635
      obtain ⟨hnb27, hnc27⟩ := nB NB637_636
      obtain ⟨hnb28, hnc28⟩ := nB NB637_640
      obtain ⟨hcz29_0, hcz29_1, hfz29_0, hfz29_1⟩ := bK2 (w := wr) BK637
      obtain ⟨hnb30, hnc30⟩ := nB NB640_635
      obtain ⟨hnb31, hnc31⟩ := nB NB640_636
      obtain ⟨hcz32_0, hcz32_1, hfz32_0, hfz32_1⟩ := bK2 (w := wr) BK640
      go_wp2_with (first | (refine gC (some 25) Tryz.func120 #[.agg #[.int .i64 x638000_1, .int .i64 x638001_1], .agg #[.int .i64 x641000_1, .int .i64 x641001_1]] ?_; (with_reducible refine (spec_TwoMul.calls x638000_1 x638001_1 x641000_1 x641001_1 t641 t642 _ A24.out).mono ?_); rintro e w33 ⟨rfl, hb⟩; refine ⟨_, rfl, ?_⟩; replace BK635 := bB BK635 hb; replace BK636 := bB BK636 hb; replace BK637 := bB BK637 hb; replace BK640 := bB BK640 hb; replace HB := bS HB hb; (try clear hb); obtain ⟨hcz34_0, hcz34_1, hfz34_0, hfz34_1⟩ := bK2 (w := w33) BK637; obtain ⟨hcz35_0, hcz35_1, hfz35_0, hfz35_1⟩ := bK2 (w := w33) BK640) | (refine gC (some 28) Tryz.func120 #[.agg #[.int .i64 x641000_1, .int .i64 x641001_1], .agg #[.int .i64 x641000_1, .int .i64 x641001_1]] ?_; (with_reducible refine (spec_TwoMul.calls x641000_1 x641001_1 x641000_1 x641001_1 t643 t644 _ A25.out).mono ?_); rintro e w36 ⟨rfl, hb⟩; refine ⟨_, rfl, ?_⟩; replace BK635 := bB BK635 hb; replace BK636 := bB BK636 hb; replace BK637 := bV 75 #[.int .i64 t641, .int .i64 t642] BK637 hb; replace BK640 := bB BK640 hb; replace HB := bS HB hb; (try clear hb); obtain ⟨hcz37_0, hcz37_1, hfz37_0, hfz37_1⟩ := bK2 (w := w36) BK640))
      go_roundg k1
      case measure => have := HK1.out; omega
      case rel => exact ⟨(wrap64 (Int.tdiv x1_1 2)), (t641), (t642), (t643), (t644), rS, H', ⟨by have := HK1.out; omega⟩, ⟨bP BK635⟩, ⟨bP BK636⟩, ⟨bP BK637⟩, ⟨bU BK640⟩, ⟨bZ HB⟩⟩
     ·rw [if_neg c23] at H
      have c23b0 : ((Int.tmod x1_1 2) == 1) = false := beq_eq_false_iff_ne.mpr c23
      have c23b1 : ((Int.tmod x1_1 2) != 1) = true := bne_iff_ne.mpr c23
      replace H := Option.bind_eq_some_iff.mp H
      obtain ⟨⟨t645, t646⟩, A380, H⟩ := H
      have A38 := Aside0.mk A380
      clear A380
      have H' := Aside0.mk H
      clear H
      obtain ⟨hnb39, hnc39⟩ := nB NB640_635
      obtain ⟨hnb40, hnc40⟩ := nB NB640_636
      obtain ⟨hnb41, hnc41⟩ := nB NB640_637
      obtain ⟨hcz42_0, hcz42_1, hfz42_0, hfz42_1⟩ := bK2 (w := wr) BK640
      go_wp2_with (first | (refine gC (some 28) Tryz.func120 #[.agg #[.int .i64 x641000_1, .int .i64 x641001_1], .agg #[.int .i64 x641000_1, .int .i64 x641001_1]] ?_; (with_reducible refine (spec_TwoMul.calls x641000_1 x641001_1 x641000_1 x641001_1 t645 t646 _ A38.out).mono ?_); rintro e w43 ⟨rfl, hb⟩; refine ⟨_, rfl, ?_⟩; replace BK635 := bB BK635 hb; replace BK636 := bB BK636 hb; replace BK637 := bB BK637 hb; replace BK640 := bB BK640 hb; replace HB := bS HB hb; (try clear hb); obtain ⟨hcz44_0, hcz44_1, hfz44_0, hfz44_1⟩ := bK2 (w := w43) BK640))
      go_roundg k1
      case measure => have := HK1.out; omega
      case rel => exact ⟨(wrap64 (Int.tdiv x1_1 2)), (x638000_1), (x638001_1), (t645), (t646), rS, H', ⟨by have := HK1.out; omega⟩, ⟨bP BK635⟩, ⟨bP BK636⟩, ⟨bP BK637⟩, ⟨bU BK640⟩, ⟨bZ HB⟩⟩
    ·rw [if_neg c22] at H
     have c22b0 := decide_eq_false c22
     clear c22
     simp only [Option.some.injEq, Prod.mk.injEq] at H
     obtain ⟨rfl, rfl⟩ := H
     obtain ⟨hnb45, hnc45⟩ := nB NB637_635
     obtain ⟨hnb46, hnc46⟩ := nB NB637_636
     obtain ⟨hnb47, hnc47⟩ := nB NB637_640
     obtain ⟨hcz48_0, hcz48_1, hfz48_0, hfz48_1⟩ := bK2 (w := wr) BK637
     obtain ⟨hnb49, hnc49⟩ := nB NB636_635
     obtain ⟨hnb50, hnc50⟩ := nB NB636_640
     obtain ⟨hcz51_0, hcz51_1, hfz51_0, hfz51_1⟩ := bK2 (w := wr) BK636
     go_wp2
     refine rC gb636 75 #[.int .i64 x638000_1, .int .i64 x638001_1] (bU BK636) Tryz.underlying75 ?_
     exact ⟨rR, bZ HB⟩
def spec_TwoTurn.f (a0_0 : Int) (a0_1 : Int) : Option (Int × Int) := (spec_FpOf.f a0_0).bind fun t649 => ((spec_FpSub.f 0 a0_1).bind fun t650 => (some (t649, t650)))
def spec_TwoTurn.T1 : Bool × List (List Nat × List Nat) := (true, [([], []), ([0], [0]), ([1], [1]), ([], []), ([3], [3]), ([4, 2], [4]), ([2, 5], [2, 5]), ([6, 5, 0, 1, 2, 3, 4, 5, 6], [6])])
def spec_TwoTurn.B1 : List Nat := [0, 1, 3, 0, 8, 31, 63, 127]
theorem spec_TwoTurn.tab1 : rtab .any (opsOf Tryz.f121 1) = spec_TwoTurn.T1 := by kernel_rfl
theorem spec_TwoTurn.bits1 : waitsOk spec_TwoTurn.T1.2 spec_TwoTurn.B1 = true := by kernel_rfl
set_option maxHeartbeats 8000000 in
set_option maxRecDepth 100000 in
theorem spec_TwoTurn.calls (a0_0 : Int) (a0_1 : Int) (r1 : Int) (r2 : Int) (w : World) (h : spec_TwoTurn.f a0_0 a0_1 = some (r1, r2)) :
  Calls Tryz.prog 121 #[.agg #[.int .i64 a0_0, .int .i64 a0_1]] w fun e w' => e = .returned (.agg #[.int .i64 r1, .int .i64 r2]) ∧ Below w.heap.size w w' := by
 have hu75 := Tryz.underlying75
 have HB := Aside0.mk (Below.refl w.heap.size w)
 have H : ((spec_FpOf.f a0_0).bind fun t649 => ((spec_FpSub.f 0 a0_1).bind fun t650 => (some (t649, t650)))) = some (r1, r2) := h
 clear h
 replace H := Option.bind_eq_some_iff.mp H
 obtain ⟨t649, A20, H⟩ := H
 have A2 := Aside0.mk A20
 clear A20
 replace H := Option.bind_eq_some_iff.mp H
 obtain ⟨t650, A30, H⟩ := H
 have A3 := Aside0.mk A30
 clear A30
 simp only [Option.some.injEq, Prod.mk.injEq] at H
 obtain ⟨rfl, rfl⟩ := H
 go_enter Tryz.func121, Tryz.ntmps121
 try go_wp2_with (first | (refine gB 1 #[.int .i64 a0_0, .int .i64 a0_1] 75 ?_; intro gb647 hg w4 BK647 hb; have GW647 := bG HB hg; replace HB := bS HB hb; clear hb hg) | (refine gB 2 #[.int .i64 0, .int .i64 0] 75 ?_; intro gb648 hg w5 BK648 hb; have GW648 := bG HB hg; replace HB := bS HB hb; obtain ⟨NB647_648, NB648_647⟩ := bN BK647 hg; replace BK647 := bB BK647 hb; clear hb hg))
 replace BK647 := Aside0.mk (blk_drew BK647.out)
 replace BK648 := Aside0.mk (blk_drew BK648.out)
 replace HB := Aside0.mk (below_drew1 HB.out)
 refine start_ (n := 8) (S := fun w' => SQ2 w' gb647 (.int .i64 a0_0) (.int .i64 a0_1)) (ds := []) #[false, false, false, false, false, false, false, false] (by kernel_rfl) rfl rfl (bT2 BK647) (fun hHeld => ?_); refine with_tabW spec_TwoTurn.tab1 spec_TwoTurn.bits1 (fun HT_ HW_ => ?_)
 generalize w5.drew = w6 at BK647 BK648 HB hHeld ⊢
 refine pI 0 (some 3) HT_.out ?_
 refine pI 3 (some 6) HT_.out ?_
 refine tI2 1 (some 4) HT_.out HW_.out hHeld ?_
 refine tI2 4 (some 7) HT_.out HW_.out hHeld ?_
 refine oI 2 (some 5) HT_.out (fun K hK => ?_)
 refine gO Tryz.func62 #[.int .i64 a0_0] ?_
 with_reducible refine (spec_FpOf.calls a0_0 t649 _ A2.out).mono ?_
 rintro e w' ⟨rfl, ⟨nd, rfl⟩⟩
 refine ⟨_, rfl, ?_⟩
 refine hK.out _ _ (bT2 BK647) (fun hHeld => ?_)
 clear hK K
 refine nO (some 5) ?_
 refine oI 5 (some 8) HT_.out (fun K hK => ?_)
 refine gO Tryz.func113 #[.int .i64 0, .int .i64 a0_1] ?_
 with_reducible refine (spec_FpSub.calls 0 a0_1 t650 _ A3.out).mono ?_
 rintro e w' ⟨rfl, ⟨nd, rfl⟩⟩
 refine ⟨_, rfl, ?_⟩
 refine hK.out _ _ (bT2 BK647) (fun hHeld => ?_)
 clear hK K
 refine nO (some 8) ?_
 refine pI 6 (some 9) HT_.out ?_
 refine oI 7 (none) HT_.out (fun K hK => ?_)
 have hs7 : w6.cell? ⟨gb648, 0, none⟩ = some (.int .i64 0) := bc BK648 0
 have hfs7 := blk_frozen BK648.out 0
 obtain ⟨hns7_0, hms7_0⟩ := nB NB647_648
 have hs8 : w6.cell? ⟨gb648, 1, none⟩ = some (.int .i64 0) := bc BK648 1
 have hfs8 := blk_frozen BK648.out 1
 obtain ⟨hns8_0, hms8_0⟩ := nB NB647_648
 refine skip_ (w1 := ?_) (by rfl) rfl ?_ ?_
 rotate_left
 ·go_simp
  rfl
 refine hK.out _ _ ⟨((cell_far (p := ⟨gb648, _, none⟩) NB647_648.out _).trans (((cell_far (p := ⟨gb648, _, none⟩) NB647_648.out _).trans (hHeld.1)))), ((cell_far (p := ⟨gb648, _, none⟩) NB647_648.out _).trans (((cell_far (p := ⟨gb648, _, none⟩) NB647_648.out _).trans (hHeld.2))))⟩ (fun hHeld => ?_)
 clear hK K
 refine done_ (done_of HT_.out (by kernel_rfl)) ?_
 try go_wp2
 refine rC gb648 75 #[.int .i64 t649, .int .i64 t650] (bU BK648) Tryz.underlying75 ?_
 exact ⟨rR, bZ HB⟩
def spec_TwoInv.f (k : Nat) (a0_0 : Int) (a0_1 : Int) : Option (Int × Int) := (spec_FpMul.f a0_0 a0_0).bind fun t653 => ((spec_FpMul.f a0_1 a0_1).bind fun t654 => ((spec_FpAdd.f t653 t654).bind fun t655 => ((spec_FpInv.f k t655).bind fun t656 => ((spec_FpMul.f a0_0 t656).bind fun t657 => ((spec_FpSub.f 0 a0_1).bind fun t658 => ((spec_FpMul.f t658 t656).bind fun t659 => (some (t657, t659))))))))
def spec_TwoInv.T1 : Bool × List (List Nat × List Nat) := (true, [([], []), ([0], [0]), ([], []), ([2], [2]), ([1, 3], [1, 3]), ([], []), ([5], [5]), ([], []), ([7], [7]), ([6, 8, 4], [6, 8]), ([4, 9, 9], [4, 9]), ([10, 10], [10]), ([11, 11, 0, 1, 2, 3, 4, 5, 6, 7, 8, 9, 10, 11], [11])])
def spec_TwoInv.B1 : List Nat := [0, 1, 0, 4, 15, 0, 32, 0, 128, 511, 1023, 2047, 4095]
theorem spec_TwoInv.tab1 : rtab .any (opsOf Tryz.f122 1) = spec_TwoInv.T1 := by kernel_rfl
theorem spec_TwoInv.bits1 : waitsOk spec_TwoInv.T1.2 spec_TwoInv.B1 = true := by kernel_rfl
def spec_TwoInv.T2 : Bool × List (List Nat × List Nat) := (true, [([], []), ([0], [0]), ([], []), ([1, 2], [1, 2]), ([], []), ([4], [4]), ([5, 3], [5]), ([], []), ([6, 7, 6], [6, 7]), ([3, 8], [3, 8]), ([9, 8, 0, 1, 2, 3, 4, 5, 6, 7, 8, 9], [9])])
def spec_TwoInv.B2 : List Nat := [0, 1, 0, 7, 0, 16, 63, 0, 255, 511, 1023]
theorem spec_TwoInv.tab2 : rtab .any (opsOf Tryz.f122 2) = spec_TwoInv.T2 := by kernel_rfl
theorem spec_TwoInv.bits2 : waitsOk spec_TwoInv.T2.2 spec_TwoInv.B2 = true := by kernel_rfl
set_option maxHeartbeats 8000000 in
set_option maxRecDepth 100000 in
theorem spec_TwoInv.calls (k : Nat) (a0_0 : Int) (a0_1 : Int) (r1 : Int) (r2 : Int) (w : World) (h : spec_TwoInv.f k a0_0 a0_1 = some (r1, r2)) :
  Calls Tryz.prog 122 #[.agg #[.int .i64 a0_0, .int .i64 a0_1]] w fun e w' => e = .returned (.agg #[.int .i64 r1, .int .i64 r2]) ∧ Below w.heap.size w w' := by
 have hu75 := Tryz.underlying75
 have HB := Aside0.mk (Below.refl w.heap.size w)
 have H : ((spec_FpMul.f a0_0 a0_0).bind fun t653 => ((spec_FpMul.f a0_1 a0_1).bind fun t654 => ((spec_FpAdd.f t653 t654).bind fun t655 => ((spec_FpInv.f k t655).bind fun t656 => ((spec_FpMul.f a0_0 t656).bind fun t657 => ((spec_FpSub.f 0 a0_1).bind fun t658 => ((spec_FpMul.f t658 t656).bind fun t659 => (some (t657, t659))))))))) = some (r1, r2) := h
 clear h
 replace H := Option.bind_eq_some_iff.mp H
 obtain ⟨t653, A20, H⟩ := H
 have A2 := Aside0.mk A20
 clear A20
 replace H := Option.bind_eq_some_iff.mp H
 obtain ⟨t654, A30, H⟩ := H
 have A3 := Aside0.mk A30
 clear A30
 replace H := Option.bind_eq_some_iff.mp H
 obtain ⟨t655, A40, H⟩ := H
 have A4 := Aside0.mk A40
 clear A40
 replace H := Option.bind_eq_some_iff.mp H
 obtain ⟨t656, A50, H⟩ := H
 have A5 := Aside0.mk A50
 clear A50
 replace H := Option.bind_eq_some_iff.mp H
 obtain ⟨t657, A60, H⟩ := H
 have A6 := Aside0.mk A60
 clear A60
 replace H := Option.bind_eq_some_iff.mp H
 obtain ⟨t658, A70, H⟩ := H
 have A7 := Aside0.mk A70
 clear A70
 replace H := Option.bind_eq_some_iff.mp H
 obtain ⟨t659, A80, H⟩ := H
 have A8 := Aside0.mk A80
 clear A80
 simp only [Option.some.injEq, Prod.mk.injEq] at H
 obtain ⟨rfl, rfl⟩ := H
 go_enter Tryz.func122, Tryz.ntmps122
 try go_wp2_with (first | (refine gB 1 #[.int .i64 a0_0, .int .i64 a0_1] 75 ?_; intro gb651 hg w9 BK651 hb; have GW651 := bG HB hg; replace HB := bS HB hb; clear hb hg) | (refine gB 2 #[.int .i64 0, .int .i64 0] 75 ?_; intro gb652 hg w10 BK652 hb; have GW652 := bG HB hg; replace HB := bS HB hb; obtain ⟨NB651_652, NB652_651⟩ := bN BK651 hg; replace BK651 := bB BK651 hb; clear hb hg))
 replace BK651 := Aside0.mk (blk_drew BK651.out)
 replace BK652 := Aside0.mk (blk_drew BK652.out)
 replace HB := Aside0.mk (below_drew1 HB.out)
 refine start_ (n := 13) (S := fun w' => SQ2 w' gb651 (.int .i64 a0_0) (.int .i64 a0_1)) (ds := []) #[false, false, false, false, false, false, false, false, false, false, false, false, false] (by kernel_rfl) rfl rfl (bT2 BK651) (fun hHeld => ?_); refine with_tabW spec_TwoInv.tab1 spec_TwoInv.bits1 (fun HT_ HW_ => ?_)
 generalize w10.drew = w11 at BK651 BK652 HB hHeld ⊢
 refine pI 0 (some 4) HT_.out ?_
 refine pI 2 (some 6) HT_.out ?_
 refine pI 5 (some 9) HT_.out ?_
 refine pI 7 (some 11) HT_.out ?_
 refine tI2 1 (some 5) HT_.out HW_.out hHeld ?_
 refine tI2 3 (some 7) HT_.out HW_.out hHeld ?_
 refine tI2 6 (some 10) HT_.out HW_.out hHeld ?_
 refine tI2 8 (some 12) HT_.out HW_.out hHeld ?_
 refine oI 4 (some 8) HT_.out (fun K hK => ?_)
 refine gO Tryz.func112 #[.int .i64 a0_0, .int .i64 a0_0] ?_
 with_reducible refine (spec_FpMul.calls a0_0 a0_0 t653 _ A2.out).mono ?_
 rintro e w' ⟨rfl, ⟨nd, rfl⟩⟩
 refine ⟨_, rfl, ?_⟩
 refine hK.out _ _ (bT2 BK651) (fun hHeld => ?_)
 clear hK K
 refine nO (some 8) ?_
 refine oI 9 (some 13) HT_.out (fun K hK => ?_)
 refine gO Tryz.func112 #[.int .i64 a0_1, .int .i64 a0_1] ?_
 with_reducible refine (spec_FpMul.calls a0_1 a0_1 t654 _ A3.out).mono ?_
 rintro e w' ⟨rfl, ⟨nd, rfl⟩⟩
 refine ⟨_, rfl, ?_⟩
 refine hK.out _ _ (bT2 BK651) (fun hHeld => ?_)
 clear hK K
 refine nO (some 13) ?_
 refine oI 10 (some 14) HT_.out (fun K hK => ?_)
 refine gO Tryz.func114 #[.int .i64 t653, .int .i64 t654] ?_
 with_reducible refine (spec_FpAdd.calls t653 t654 t655 _ A4.out).mono ?_
 rintro e w' ⟨rfl, ⟨nd, rfl⟩⟩
 refine ⟨_, rfl, ?_⟩
 refine hK.out _ _ (bT2 BK651) (fun hHeld => ?_)
 clear hK K
 refine nO (some 14) ?_
 refine oI 11 (some 15) HT_.out (fun K hK => ?_)
 refine gO Tryz.func142 #[.int .i64 t655] ?_
 with_reducible refine (spec_FpInv.calls k t655 t656 _ A5.out).mono ?_
 rintro e w' ⟨rfl, ⟨nd, rfl⟩⟩
 refine ⟨_, rfl, ?_⟩
 refine hK.out _ _ (bT2 BK651) (fun hHeld => ?_)
 clear hK K
 refine nO (some 15) ?_
 refine pI 12 (some 3) HT_.out ?_
 refine done_ (done_of HT_.out (by kernel_rfl)) ?_
 try go_wp2
 (try simp only [World.drewN_drewN]); (try (rw [drewN_self w11]; generalize hq_ : World.drewN w11 _ = w11; replace BK651 : Aside0 (w11.heap[gb651]? = some (.cells #[.int .i64 a0_0, .int .i64 a0_1] 75 (0, 0))) := ⟨by rw [← hq_]; exact (bP BK651)⟩; replace BK652 : Aside0 (w11.heap[gb652]? = some (.cells #[.int .i64 0, .int .i64 0] 75 (0, 0))) := ⟨by rw [← hq_]; exact (bP BK652)⟩; replace HB : Aside0 (Below w.heap.size w w11) := ⟨by rw [← hq_]; exact (bZ HB)⟩; clear hq_))
 replace BK651 := Aside0.mk (blk_drew BK651.out)
 replace BK652 := Aside0.mk (blk_drew BK652.out)
 replace HB := Aside0.mk (below_drew1 HB.out)
 refine start_ (n := 11) (S := fun w' => SQ2 w' gb651 (.int .i64 a0_0) (.int .i64 a0_1)) (ds := []) #[false, false, false, false, false, false, false, false, false, false, false] (by kernel_rfl) rfl rfl (bT2 BK651) (fun hHeld => ?_); refine with_tabW spec_TwoInv.tab2 spec_TwoInv.bits2 (fun HT_ HW_ => ?_)
 generalize w11.drew = w12 at BK651 BK652 HB hHeld ⊢
 refine pI 0 (some 16) HT_.out ?_
 refine pI 2 (some 18) HT_.out ?_
 refine pI 4 (some 20) HT_.out ?_
 refine pI 7 (some 23) HT_.out ?_
 refine tI2 1 (some 17) HT_.out HW_.out hHeld ?_
 refine tI2 5 (some 21) HT_.out HW_.out hHeld ?_
 refine oI 3 (some 19) HT_.out (fun K hK => ?_)
 refine gO Tryz.func112 #[.int .i64 a0_0, .int .i64 t656] ?_
 with_reducible refine (spec_FpMul.calls a0_0 t656 t657 _ A6.out).mono ?_
 rintro e w' ⟨rfl, ⟨nd, rfl⟩⟩
 refine ⟨_, rfl, ?_⟩
 refine hK.out _ _ (bT2 BK651) (fun hHeld => ?_)
 clear hK K
 refine nO (some 19) ?_
 refine oI 6 (some 22) HT_.out (fun K hK => ?_)
 refine gO Tryz.func113 #[.int .i64 0, .int .i64 a0_1] ?_
 with_reducible refine (spec_FpSub.calls 0 a0_1 t658 _ A7.out).mono ?_
 rintro e w' ⟨rfl, ⟨nd, rfl⟩⟩
 refine ⟨_, rfl, ?_⟩
 refine hK.out _ _ (bT2 BK651) (fun hHeld => ?_)
 clear hK K
 refine nO (some 22) ?_
 refine oI 8 (some 24) HT_.out (fun K hK => ?_)
 refine gO Tryz.func112 #[.int .i64 t658, .int .i64 t656] ?_
 with_reducible refine (spec_FpMul.calls t658 t656 t659 _ A8.out).mono ?_
 rintro e w' ⟨rfl, ⟨nd, rfl⟩⟩
 refine ⟨_, rfl, ?_⟩
 refine hK.out _ _ (bT2 BK651) (fun hHeld => ?_)
 clear hK K
 refine nO (some 24) ?_
 refine pI 9 (some 25) HT_.out ?_
 refine oI 10 (none) HT_.out (fun K hK => ?_)
 have hs13 : w12.cell? ⟨gb652, 0, none⟩ = some (.int .i64 0) := bc BK652 0
 have hfs13 := blk_frozen BK652.out 0
 obtain ⟨hns13_0, hms13_0⟩ := nB NB651_652
 have hs14 : w12.cell? ⟨gb652, 1, none⟩ = some (.int .i64 0) := bc BK652 1
 have hfs14 := blk_frozen BK652.out 1
 obtain ⟨hns14_0, hms14_0⟩ := nB NB651_652
 refine skip_ (w1 := ?_) (by rfl) rfl ?_ ?_
 rotate_left
 ·go_simp
  rfl
 refine hK.out _ _ ⟨((cell_far (p := ⟨gb652, _, none⟩) NB651_652.out _).trans (((cell_far (p := ⟨gb652, _, none⟩) NB651_652.out _).trans (hHeld.1)))), ((cell_far (p := ⟨gb652, _, none⟩) NB651_652.out _).trans (((cell_far (p := ⟨gb652, _, none⟩) NB651_652.out _).trans (hHeld.2))))⟩ (fun hHeld => ?_)
 clear hK K
 refine done_ (done_of HT_.out (by kernel_rfl)) ?_
 try go_wp2
 refine rC gb652 75 #[.int .i64 t657, .int .i64 t659] (bU BK652) Tryz.underlying75 ?_
 exact ⟨rR, bZ HB⟩
def spec_Pairing.j0 : Nat → Bool → Int → Int → Bool → Int → Int → Bool → Option (Int × Int)
 | 0, _, _, _, _, _, _, _ => none
 | k + 1, x21, x661000, x661001, x661002, x662000, x662001, x662002 => if x21 = true then (some (1, 0)) else ((spec_Miller.f k x661000 x661001 x661002 x662000 x662001 x662002).bind fun bt665 => ((spec_TwoTurn.f bt665.1 bt665.2).bind fun bt668 => ((spec_TwoInv.f k bt665.1 bt665.2).bind fun bt670 => ((spec_TwoMul.f bt668.1 bt668.2 bt670.1 bt670.2).bind fun bt672 => ((spec_TwoPow.f k bt672.1 bt672.2 12).bind fun bt674 => (some (bt674.1, bt674.2)))))))
def spec_Pairing.f (k : Nat) (a0_0 : Int) (a0_1 : Int) (a0_2 : Bool) (a1_0 : Int) (a1_1 : Int) (a1_2 : Bool) : Option (Int × Int) := (spec_InGroup.f k a0_0 a0_1 a0_2).bind fun t663 => (if t663 = true then ((spec_InGroup.f k a1_0 a1_1 a1_2).bind fun t664 => (if t664 = true then (if a0_2 = true then (spec_Pairing.j0 k true a0_0 a0_1 a0_2 a1_0 a1_1 a1_2) else (spec_Pairing.j0 k a1_2 a0_0 a0_1 a0_2 a1_0 a1_1 a1_2)) else (spec_Pairing.j0 k true a0_0 a0_1 a0_2 a1_0 a1_1 a1_2))) else (spec_Pairing.j0 k true a0_0 a0_1 a0_2 a1_0 a1_1 a1_2))
set_option maxHeartbeats 8000000 in
set_option maxRecDepth 100000 in
theorem spec_Pairing.calls (k : Nat) (a0_0 : Int) (a0_1 : Int) (a0_2 : Bool) (a1_0 : Int) (a1_1 : Int) (a1_2 : Bool) (r1 : Int) (r2 : Int) (w : World) (h : spec_Pairing.f k a0_0 a0_1 a0_2 a1_0 a1_1 a1_2 = some (r1, r2)) :
  Calls Tryz.prog 68 #[.agg #[.int .i64 a0_0, .int .i64 a0_1, .bool a0_2], .agg #[.int .i64 a1_0, .int .i64 a1_1, .bool a1_2]] w fun e w' => e = .returned (.agg #[.int .i64 r1, .int .i64 r2]) ∧ Below w.heap.size w w' := by
 have hu28 := Tryz.underlying28
 have hu75 := Tryz.underlying75
 have HB := Aside0.mk (Below.refl w.heap.size w)
 have H : ((spec_InGroup.f k a0_0 a0_1 a0_2).bind fun t663 => (if t663 = true then ((spec_InGroup.f k a1_0 a1_1 a1_2).bind fun t664 => (if t664 = true then (if a0_2 = true then (spec_Pairing.j0 k true a0_0 a0_1 a0_2 a1_0 a1_1 a1_2) else (spec_Pairing.j0 k a1_2 a0_0 a0_1 a0_2 a1_0 a1_1 a1_2)) else (spec_Pairing.j0 k true a0_0 a0_1 a0_2 a1_0 a1_1 a1_2))) else (spec_Pairing.j0 k true a0_0 a0_1 a0_2 a1_0 a1_1 a1_2))) = some (r1, r2) := h
 clear h
 have HC3 := Aside0.mk H
 clear H
 go_enter Tryz.func68, Tryz.ntmps68
 go_upto_region 1 with (first | (refine gB 2 #[.int .i64 a0_0, .int .i64 a0_1, .bool a0_2] 28 ?_; intro gb660 hg w4 BK660 hb; have GW660 := bG HB hg; replace HB := bS HB hb; clear hb hg) | (refine gB 3 #[.int .i64 a1_0, .int .i64 a1_1, .bool a1_2] 28 ?_; intro gb661 hg w5 BK661 hb; have GW661 := bG HB hg; replace HB := bS HB hb; obtain ⟨NB660_661, NB661_660⟩ := bN BK660 hg; replace BK660 := bB BK660 hb; clear hb hg) | (refine gB 4 #[.int .i64 0, .int .i64 0] 75 ?_; intro gb662 hg w6 BK662 hb; have GW662 := bG HB hg; replace HB := bS HB hb; obtain ⟨NB660_662, NB662_660⟩ := bN BK660 hg; replace BK660 := bB BK660 hb; obtain ⟨NB661_662, NB662_661⟩ := bN BK661 hg; replace BK661 := bB BK661 hb; clear hb hg))
 (try simp only [Act.put, List.setIfInBounds_toArray, List.set_cons_zero, List.set_cons_succ])
 go_cut [21] (fun v21 wc => ∃ (kq : Nat) (x21_2 : Bool), v21 = .bool x21_2 ∧ Aside0 (spec_Pairing.j0 kq x21_2 a0_0 a0_1 a0_2 a1_0 a1_1 a1_2 = some (r1, r2)) ∧ Aside0 (kq ≤ k) ∧ Aside0 (wc.heap[gb660]? = some (.cells #[.int .i64 a0_0, .int .i64 a0_1, .bool a0_2] 28 (0, 0))) ∧ Aside0 (wc.heap[gb661]? = some (.cells #[.int .i64 a1_0, .int .i64 a1_1, .bool a1_2] 28 (0, 0))) ∧ Aside0 (wc.heap[gb662]? = some (.cells #[.int .i64 0, .int .i64 0] 75 (0, 0))) ∧ Aside0 (Below w.heap.size w wc))
 case first =>
  have H := HC3.out
  clear HC3
  replace H := Option.bind_eq_some_iff.mp H
  obtain ⟨t663, A70, H⟩ := H
  have A7 := Aside0.mk A70
  clear A70
  by_cases c8 : t663 = true
  ·subst c8
   rw [if_pos rfl] at H
   replace H := Option.bind_eq_some_iff.mp H
   obtain ⟨t664, A90, H⟩ := H
   have A9 := Aside0.mk A90
   clear A90
   by_cases c10 : t664 = true
   ·subst c10
    rw [if_pos rfl] at H
    by_cases c11 : a0_2 = true
    ·subst c11
     rw [if_pos rfl] at H
     have H' := Aside0.mk H
     clear H
     obtain ⟨hnb12, hnc12⟩ := nB NB660_661
     obtain ⟨hnb13, hnc13⟩ := nB NB660_662
     obtain ⟨hcz14_0, hcz14_1, hcz14_2, hfz14_0, hfz14_1, hfz14_2⟩ := bK3 (w := w6) BK660
     go_wp2_with (first | (refine gC (some 7) Tryz.func67 #[.agg #[.int .i64 a0_0, .int .i64 a0_1, .bool true]] ?_; (with_reducible refine (spec_InGroup.calls k a0_0 a0_1 true true _ A7.out).mono ?_); rintro e w15 ⟨rfl, hb⟩; refine ⟨_, rfl, ?_⟩; replace BK660 := bB BK660 hb; replace BK661 := bB BK661 hb; replace BK662 := bB BK662 hb; replace HB := bS HB hb; (try clear hb); obtain ⟨hnb16, hnc16⟩ := nB NB661_662; obtain ⟨hcz17_0, hcz17_1, hcz17_2, hfz17_0, hfz17_1, hfz17_2⟩ := bK3 (w := w15) BK661) | (go_at_call 67; (with_reducible refine (spec_InGroup.calls k a1_0 a1_1 a1_2 true _ A9.out).mono ?_); rintro e w18 ⟨rfl, hb⟩; replace BK660 := bB BK660 hb; replace BK661 := bB BK661 hb; replace BK662 := bB BK662 hb; replace HB := bS HB hb; (try clear hb); obtain ⟨hcz19_0, hcz19_1, hcz19_2, hfz19_0, hfz19_1, hfz19_2⟩ := bK3 (w := w18) BK660))
     go_meet
     case rel => exact ⟨_, (true), rS, H', ⟨by first | omega | exact Nat.le_refl _⟩, ⟨bP BK660⟩, ⟨bP BK661⟩, ⟨bP BK662⟩, ⟨bZ HB⟩⟩
    ·replace c11 := Bool.eq_false_iff.mpr c11
     subst c11
     rw [if_neg (show ¬ (false = true) by decide)] at H
     have H' := Aside0.mk H
     clear H
     obtain ⟨hnb20, hnc20⟩ := nB NB660_661
     obtain ⟨hnb21, hnc21⟩ := nB NB660_662
     obtain ⟨hcz22_0, hcz22_1, hcz22_2, hfz22_0, hfz22_1, hfz22_2⟩ := bK3 (w := w6) BK660
     go_wp2_with (first | (refine gC (some 7) Tryz.func67 #[.agg #[.int .i64 a0_0, .int .i64 a0_1, .bool false]] ?_; (with_reducible refine (spec_InGroup.calls k a0_0 a0_1 false true _ A7.out).mono ?_); rintro e w23 ⟨rfl, hb⟩; refine ⟨_, rfl, ?_⟩; replace BK660 := bB BK660 hb; replace BK661 := bB BK661 hb; replace BK662 := bB BK662 hb; replace HB := bS HB hb; (try clear hb); obtain ⟨hnb24, hnc24⟩ := nB NB661_662; obtain ⟨hcz25_0, hcz25_1, hcz25_2, hfz25_0, hfz25_1, hfz25_2⟩ := bK3 (w := w23) BK661) | (go_at_call 67; (with_reducible refine (spec_InGroup.calls k a1_0 a1_1 a1_2 true _ A9.out).mono ?_); rintro e w26 ⟨rfl, hb⟩; replace BK660 := bB BK660 hb; replace BK661 := bB BK661 hb; replace BK662 := bB BK662 hb; replace HB := bS HB hb; (try clear hb); obtain ⟨hcz27_0, hcz27_1, hcz27_2, hfz27_0, hfz27_1, hfz27_2⟩ := bK3 (w := w26) BK660; obtain ⟨hcz28_0, hcz28_1, hcz28_2, hfz28_0, hfz28_1, hfz28_2⟩ := bK3 (w := w26) BK661))
     go_meet
     case rel => exact ⟨_, (a1_2), rS, H', ⟨by first | omega | exact Nat.le_refl _⟩, ⟨bP BK660⟩, ⟨bP BK661⟩, ⟨bP BK662⟩, ⟨bZ HB⟩⟩
   ·replace c10 := Bool.eq_false_iff.mpr c10
    subst c10
    rw [if_neg (show ¬ (false = true) by decide)] at H
    have H' := Aside0.mk H
    clear H
    obtain ⟨hnb29, hnc29⟩ := nB NB660_661
    obtain ⟨hnb30, hnc30⟩ := nB NB660_662
    obtain ⟨hcz31_0, hcz31_1, hcz31_2, hfz31_0, hfz31_1, hfz31_2⟩ := bK3 (w := w6) BK660
    go_wp2_with (first | (refine gC (some 7) Tryz.func67 #[.agg #[.int .i64 a0_0, .int .i64 a0_1, .bool a0_2]] ?_; (with_reducible refine (spec_InGroup.calls k a0_0 a0_1 a0_2 true _ A7.out).mono ?_); rintro e w32 ⟨rfl, hb⟩; refine ⟨_, rfl, ?_⟩; replace BK660 := bB BK660 hb; replace BK661 := bB BK661 hb; replace BK662 := bB BK662 hb; replace HB := bS HB hb; (try clear hb); obtain ⟨hnb33, hnc33⟩ := nB NB661_662; obtain ⟨hcz34_0, hcz34_1, hcz34_2, hfz34_0, hfz34_1, hfz34_2⟩ := bK3 (w := w32) BK661) | (go_at_call 67; (with_reducible refine (spec_InGroup.calls k a1_0 a1_1 a1_2 false _ A9.out).mono ?_); rintro e w35 ⟨rfl, hb⟩; replace BK660 := bB BK660 hb; replace BK661 := bB BK661 hb; replace BK662 := bB BK662 hb; replace HB := bS HB hb; (try clear hb)))
    go_meet
    case rel => exact ⟨_, (true), rS, H', ⟨by first | omega | exact Nat.le_refl _⟩, ⟨bP BK660⟩, ⟨bP BK661⟩, ⟨bP BK662⟩, ⟨bZ HB⟩⟩
  ·replace c8 := Bool.eq_false_iff.mpr c8
   subst c8
   rw [if_neg (show ¬ (false = true) by decide)] at H
   have H' := Aside0.mk H
   clear H
   obtain ⟨hnb36, hnc36⟩ := nB NB660_661
   obtain ⟨hnb37, hnc37⟩ := nB NB660_662
   obtain ⟨hcz38_0, hcz38_1, hcz38_2, hfz38_0, hfz38_1, hfz38_2⟩ := bK3 (w := w6) BK660
   go_wp2_with (first | (refine gC (some 7) Tryz.func67 #[.agg #[.int .i64 a0_0, .int .i64 a0_1, .bool a0_2]] ?_; (with_reducible refine (spec_InGroup.calls k a0_0 a0_1 a0_2 false _ A7.out).mono ?_); rintro e w39 ⟨rfl, hb⟩; refine ⟨_, rfl, ?_⟩; replace BK660 := bB BK660 hb; replace BK661 := bB BK661 hb; replace BK662 := bB BK662 hb; replace HB := bS HB hb; (try clear hb)))
   go_meet
   case rel => exact ⟨_, (true), rS, H', ⟨by first | omega | exact Nat.le_refl _⟩, ⟨bP BK660⟩, ⟨bP BK661⟩, ⟨bP BK662⟩, ⟨bZ HB⟩⟩
 case rest =>
  clear HC3
  try clear c1
  try clear c2
  try clear p2
  try clear c3
  try clear c6
  try clear c8
  try clear c10
  try clear c11
  try clear c12
  try clear c13
  try clear c16
  try clear c20
  try clear c21
  try clear c24
  try clear c29
  try clear c30
  try clear c33
  try clear c36
  try clear c37
  try clear hcz14_0
  try clear hcz14_1
  try clear hcz14_2
  try clear hcz17_0
  try clear hcz17_1
  try clear hcz17_2
  try clear hcz19_0
  try clear hcz19_1
  try clear hcz19_2
  try clear hcz22_0
  try clear hcz22_1
  try clear hcz22_2
  try clear hcz25_0
  try clear hcz25_1
  try clear hcz25_2
  try clear hcz27_0
  try clear hcz27_1
  try clear hcz27_2
  try clear hcz28_0
  try clear hcz28_1
  try clear hcz28_2
  try clear hcz31_0
  try clear hcz31_1
  try clear hcz31_2
  try clear hcz34_0
  try clear hcz34_1
  try clear hcz34_2
  try clear hcz38_0
  try clear hcz38_1
  try clear hcz38_2
  try clear hfz14_0
  try clear hfz14_1
  try clear hfz14_2
  try clear hfz17_0
  try clear hfz17_1
  try clear hfz17_2
  try clear hfz19_0
  try clear hfz19_1
  try clear hfz19_2
  try clear hfz22_0
  try clear hfz22_1
  try clear hfz22_2
  try clear hfz25_0
  try clear hfz25_1
  try clear hfz25_2
  try clear hfz27_0
  try clear hfz27_1
  try clear hfz27_2
  try clear hfz28_0
  try clear hfz28_1
  try clear hfz28_2
  try clear hfz31_0
  try clear hfz31_1
  try clear hfz31_2
  try clear hfz34_0
  try clear hfz34_1
  try clear hfz34_2
  try clear hfz38_0
  try clear hfz38_1
  try clear hfz38_2
  obtain ⟨kq, x21_2, rfl, HA, HJ2, BK660, BK661, BK662, HB⟩ := hcut
  cases kq with
  | zero => exact absurd HA.out (by simp [spec_Pairing.j0])
  | succ kj2 =>
   have H := HA.out
   clear HA
   simp only [spec_Pairing.j0] at H
   by_cases c40 : x21_2 = true
   ·subst c40
    rw [if_pos rfl] at H
    simp only [Option.some.injEq, Prod.mk.injEq] at H
    obtain ⟨rfl, rfl⟩ := H
    obtain ⟨hnb41, hnc41⟩ := nB NB662_660
    obtain ⟨hnb42, hnc42⟩ := nB NB662_661
    obtain ⟨hcz43_0, hcz43_1, hfz43_0, hfz43_1⟩ := bK2 (w := wc) BK662
    go_wp2
    refine rC gb662 75 #[.int .i64 1, .int .i64 0] (bU BK662) Tryz.underlying75 ?_
    exact ⟨rR, bZ HB⟩
   ·replace c40 := Bool.eq_false_iff.mpr c40
    subst c40
    rw [if_neg (show ¬ (false = true) by decide)] at H
    replace H := Option.bind_eq_some_iff.mp H
    obtain ⟨⟨t665, t666⟩, A440, H⟩ := H
    have A44 := Aside0.mk A440
    clear A440
    replace H := Option.bind_eq_some_iff.mp H
    obtain ⟨⟨t668, t669⟩, A450, H⟩ := H
    have A45 := Aside0.mk A450
    clear A450
    replace H := Option.bind_eq_some_iff.mp H
    obtain ⟨⟨t670, t671⟩, A460, H⟩ := H
    have A46 := Aside0.mk A460
    clear A460
    replace H := Option.bind_eq_some_iff.mp H
    obtain ⟨⟨t672, t673⟩, A470, H⟩ := H
    have A47 := Aside0.mk A470
    clear A470
    replace H := Option.bind_eq_some_iff.mp H
    obtain ⟨⟨t674, t675⟩, A480, H⟩ := H
    have A48 := Aside0.mk A480
    clear A480
    simp only [Option.some.injEq, Prod.mk.injEq] at H
    obtain ⟨rfl, rfl⟩ := H
    obtain ⟨hnb49, hnc49⟩ := nB NB660_661
    obtain ⟨hnb50, hnc50⟩ := nB NB660_662
    obtain ⟨hcz51_0, hcz51_1, hcz51_2, hfz51_0, hfz51_1, hfz51_2⟩ := bK3 (w := wc) BK660
    obtain ⟨hnb52, hnc52⟩ := nB NB661_662
    obtain ⟨hcz53_0, hcz53_1, hcz53_2, hfz53_0, hfz53_1, hfz53_2⟩ := bK3 (w := wc) BK661
    try go_wp2_with (first | (refine gC (some 25) Tryz.func118 #[.agg #[.int .i64 a0_0, .int .i64 a0_1, .bool a0_2], .agg #[.int .i64 a1_0, .int .i64 a1_1, .bool a1_2]] ?_; (with_reducible refine (spec_Miller.calls kj2 a0_0 a0_1 a0_2 a1_0 a1_1 a1_2 t665 t666 _ A44.out).mono ?_); rintro e w54 ⟨rfl, hb⟩; refine ⟨_, rfl, ?_⟩; replace BK660 := bB BK660 hb; replace BK661 := bB BK661 hb; replace BK662 := bB BK662 hb; replace HB := bS HB hb; (try clear hb)) | (refine gB 5 #[.int .i64 0, .int .i64 0] 75 ?_; intro gb667 hg w55 BK667 hb; have GW667 := bG HB hg; replace HB := bS HB hb; obtain ⟨NB660_667, NB667_660⟩ := bN BK660 hg; replace BK660 := bB BK660 hb; obtain ⟨NB661_667, NB667_661⟩ := bN BK661 hg; replace BK661 := bB BK661 hb; obtain ⟨NB662_667, NB667_662⟩ := bN BK662 hg; replace BK662 := bB BK662 hb; clear hb hg; obtain ⟨hnb56, hnc56⟩ := nB NB667_660; obtain ⟨hnb57, hnc57⟩ := nB NB667_661; obtain ⟨hnb58, hnc58⟩ := nB NB667_662; obtain ⟨hcz59_0, hcz59_1, hfz59_0, hfz59_1⟩ := bK2 (w := w55) BK667))
    obtain ⟨w60, hW_⟩ : ∃ W_ : World, W_ = ((w55.setCell ⟨gb667, 0, none⟩ (.int .i64 t665)).setCell ⟨gb667, 1, none⟩ (.int .i64 t666)) := ⟨_, rfl⟩
    replace BK660 := bW hW_ BK660
    replace BK661 := bW hW_ BK661
    replace BK662 := bW hW_ BK662
    replace BK667 := bX hW_ 75 #[.int .i64 t665, .int .i64 t666] BK667
    replace HB := zW hW_ HB
    rw [← hW_]
    clear hW_
    replace BK660 := Aside0.mk (blk_drew BK660.out)
    replace BK661 := Aside0.mk (blk_drew BK661.out)
    replace BK662 := Aside0.mk (blk_drew BK662.out)
    replace BK667 := Aside0.mk (blk_drew BK667.out)
    replace HB := Aside0.mk (below_drew1 HB.out)
    refine start_ (n := 7) (S := fun w' => SQ2 w' gb667 (.int .i64 t665) (.int .i64 t666)) (ds := []) #[false, false, false, false, false, false, false] (by kernel_rfl) rfl rfl (bT2 BK667) (fun hHeld => ?_)
    generalize w60.drew = w61 at BK660 BK661 BK662 BK667 HB hHeld ⊢
    refine tJ 0 (some 26) hHeld ?_
    refine tJ 2 (some 28) hHeld ?_
    refine one_ (i := 1) (N := some 27) #[true, true, true, false, false, false, false] rfl rfl (by kernel_rfl) (by decide) (fun K hK => ?_)
    refine gO Tryz.func121 #[.agg #[.int .i64 t665, .int .i64 t666]] ?_
    with_reducible refine (spec_TwoTurn.calls t665 t666 t668 t669 _ A45.out).mono ?_
    rintro e w62 ⟨rfl, hb⟩
    refine ⟨_, rfl, ?_⟩
    replace BK660 := bB BK660 hb
    replace BK661 := bB BK661 hb
    replace BK662 := bB BK662 hb
    replace BK667 := bB BK667 hb
    replace HB := bS HB hb
    (try clear hb)
    refine hK.out _ _ (bT2 BK667) (fun hHeld => ?_)
    clear hK K
    refine nO (some 27) ?_
    refine one_ (i := 3) (N := some 29) #[true, true, true, true, false, false, false] rfl rfl (by kernel_rfl) (by decide) (fun K hK => ?_)
    refine gO Tryz.func122 #[.agg #[.int .i64 t665, .int .i64 t666]] ?_
    with_reducible refine (spec_TwoInv.calls kj2 t665 t666 t670 t671 _ A46.out).mono ?_
    rintro e w63 ⟨rfl, hb⟩
    refine ⟨_, rfl, ?_⟩
    replace BK660 := bB BK660 hb
    replace BK661 := bB BK661 hb
    replace BK662 := bB BK662 hb
    replace BK667 := bB BK667 hb
    replace HB := bS HB hb
    (try clear hb)
    refine hK.out _ _ (bT2 BK667) (fun hHeld => ?_)
    clear hK K
    refine nO (some 29) ?_
    refine one_ (i := 4) (N := some 30) #[true, true, true, true, true, false, false] rfl rfl (by kernel_rfl) (by decide) (fun K hK => ?_)
    refine gO Tryz.func120 #[.agg #[.int .i64 t668, .int .i64 t669], .agg #[.int .i64 t670, .int .i64 t671]] ?_
    with_reducible refine (spec_TwoMul.calls t668 t669 t670 t671 t672 t673 _ A47.out).mono ?_
    rintro e w64 ⟨rfl, hb⟩
    refine ⟨_, rfl, ?_⟩
    replace BK660 := bB BK660 hb
    replace BK661 := bB BK661 hb
    replace BK662 := bB BK662 hb
    replace BK667 := bB BK667 hb
    replace HB := bS HB hb
    (try clear hb)
    refine hK.out _ _ (bT2 BK667) (fun hHeld => ?_)
    clear hK K
    refine nO (some 30) ?_
    refine one_ (i := 5) (N := some 31) #[true, true, true, true, true, true, false] rfl rfl (by kernel_rfl) (by decide) (fun K hK => ?_)
    refine gO Tryz.func119 #[.agg #[.int .i64 t672, .int .i64 t673], .int .i64 12] ?_
    with_reducible refine (spec_TwoPow.calls kj2 t672 t673 12 t674 t675 _ A48.out).mono ?_
    rintro e w65 ⟨rfl, hb⟩
    refine ⟨_, rfl, ?_⟩
    replace BK660 := bB BK660 hb
    replace BK661 := bB BK661 hb
    replace BK662 := bB BK662 hb
    replace BK667 := bB BK667 hb
    replace HB := bS HB hb
    (try clear hb)
    refine hK.out _ _ (bT2 BK667) (fun hHeld => ?_)
    clear hK K
    refine nO (some 31) ?_
    refine one_ (i := 6) (N := none) #[true, true, true, true, true, true, true] rfl rfl (by kernel_rfl) (by decide) (fun K hK => ?_)
    have hs66 : w65.cell? ⟨gb662, 0, none⟩ = some (.int .i64 0) := bc BK662 0
    have hfs66 := blk_frozen BK662.out 0
    have hns66_0 := NB660_662.out
    have hns66_1 := NB661_662.out
    have hns66_3 := NB667_662.out
    have hms66_0 := NB662_660.out
    have hms66_1 := NB662_661.out
    have hms66_3 := NB662_667.out
    have hs67 : w65.cell? ⟨gb662, 1, none⟩ = some (.int .i64 0) := bc BK662 1
    have hfs67 := blk_frozen BK662.out 1
    have hns67_0 := NB660_662.out
    have hns67_1 := NB661_662.out
    have hns67_3 := NB667_662.out
    have hms67_0 := NB662_660.out
    have hms67_1 := NB662_661.out
    have hms67_3 := NB662_667.out
    refine skip_ (w1 := ?_) (by rfl) rfl ?_ ?_
    rotate_left
    ·go_simp
     rfl
    refine hK.out _ _ ⟨((cell_far (p := ⟨gb662, _, none⟩) NB667_662.out _).trans (((cell_far (p := ⟨gb662, _, none⟩) NB667_662.out _).trans (hHeld.1)))), ((cell_far (p := ⟨gb662, _, none⟩) NB667_662.out _).trans (((cell_far (p := ⟨gb662, _, none⟩) NB667_662.out _).trans (hHeld.2))))⟩ (fun hHeld => ?_)
    clear hK K
    refine done_ (by kernel_rfl) ?_
    try go_wp2
    refine rC gb662 75 #[.int .i64 t674, .int .i64 t675] (bU BK662) Tryz.underlying75 ?_
    exact ⟨rR, bZ HB⟩
end Go.Proofs.YtkdmplfldfagnaaGreatDoor.Pf
end
section
namespace Go.Proofs.YtkdmplfldfagnaaGreatDoor.Pf
open Go.RowKit Go.Proofs.YtkdmplfldfagnaaGreatDoorW.PrintWords Go.Proofs.YtkdmplfldfagnaaGreatDoorW.PrintLast Go.Proofs.YtkdmplfldfagnaaGreatDoorW.PrintMore
attribute [local go_sem] max2_int min2_int max_two min_two max_three min_three max_four min_four   -- for this text's walks alone
set_option linter.unusedVariables false
set_option linter.unusedSimpArgs false
attribute [local go_sem high] eqA75
def spec_SigOk.j0 : Nat → ByteArray → Bool → Int → Int → Bool → Int → Int → Bool → Option (Bool)
 | 0, _, _, _, _, _, _, _, _ => none
 | k + 1, x1, x22, x677000, x677001, x677002, x678000, x678001, x678002 => if x22 = true then (some false) else ((spec_Base.f).bind fun bt680 => ((spec_Pairing.f k x678000 x678001 x678002 bt680.1 bt680.2.1 bt680.2.2).bind fun bt683 => ((spec_HashPoint.f k x1).bind fun bt685 => ((spec_Pairing.f k bt685.1 bt685.2.1 bt685.2.2 x677000 x677001 x677002).bind fun bt688 => (some (bt683.1 == bt688.1 && (bt683.2 == bt688.2)))))))
def spec_SigOk.f (k : Nat) (a0_0 : Int) (a0_1 : Int) (a0_2 : Bool) (a1 : ByteArray) (a2_0 : Int) (a2_1 : Int) (a2_2 : Bool) : Option (Bool) := (spec_InGroup.f k a0_0 a0_1 a0_2).bind fun t678 => (if t678 = true then ((spec_InGroup.f k a2_0 a2_1 a2_2).bind fun t679 => (if t679 = true then (if a0_2 = true then (spec_SigOk.j0 k a1 true a0_0 a0_1 a0_2 a2_0 a2_1 a2_2) else (spec_SigOk.j0 k a1 a2_2 a0_0 a0_1 a0_2 a2_0 a2_1 a2_2)) else (spec_SigOk.j0 k a1 true a0_0 a0_1 a0_2 a2_0 a2_1 a2_2))) else (spec_SigOk.j0 k a1 true a0_0 a0_1 a0_2 a2_0 a2_1 a2_2))
def spec_SigOk.T3 : Bool × List (List Nat × List Nat) := (true, [([], []), ([], []), ([0, 1, 1], [0, 1]), ([], []), ([3, 2], [3]), ([], []), ([4, 5, 4], [4, 5]), ([2, 6], [2, 6]), ([7, 6, 0, 1, 2, 3, 4, 5, 6, 7], [7])])
def spec_SigOk.B3 : List Nat := [0, 0, 3, 0, 15, 0, 63, 127, 255]
theorem spec_SigOk.tab3 : rtab .any (opsOf Tryz.f23 3) = spec_SigOk.T3 := by kernel_rfl
theorem spec_SigOk.bits3 : waitsOk spec_SigOk.T3.2 spec_SigOk.B3 = true := by kernel_rfl
set_option maxHeartbeats 8000000 in
set_option maxRecDepth 100000 in
theorem spec_SigOk.calls (k : Nat) (a0_0 : Int) (a0_1 : Int) (a0_2 : Bool) (a1 : ByteArray) (a2_0 : Int) (a2_1 : Int) (a2_2 : Bool) (r : Bool) (w : World) (h : spec_SigOk.f k a0_0 a0_1 a0_2 a1 a2_0 a2_1 a2_2 = some r) :
  Calls Tryz.prog 23 #[.agg #[.int .i64 a0_0, .int .i64 a0_1, .bool a0_2], .string a1, .agg #[.int .i64 a2_0, .int .i64 a2_1, .bool a2_2]] w fun e w' => e = .returned (.bool r) ∧ Below w.heap.size w w' := by
 have hu28 := Tryz.underlying28
 have HB := Aside0.mk (Below.refl w.heap.size w)
 have H : ((spec_InGroup.f k a0_0 a0_1 a0_2).bind fun t678 => (if t678 = true then ((spec_InGroup.f k a2_0 a2_1 a2_2).bind fun t679 => (if t679 = true then (if a0_2 = true then (spec_SigOk.j0 k a1 true a0_0 a0_1 a0_2 a2_0 a2_1 a2_2) else (spec_SigOk.j0 k a1 a2_2 a0_0 a0_1 a0_2 a2_0 a2_1 a2_2)) else (spec_SigOk.j0 k a1 true a0_0 a0_1 a0_2 a2_0 a2_1 a2_2))) else (spec_SigOk.j0 k a1 true a0_0 a0_1 a0_2 a2_0 a2_1 a2_2))) = some r := h
 clear h
 have HC4 := Aside0.mk H
 clear H
 go_enter Tryz.func23, Tryz.ntmps23
 go_upto_region 1 with (first | (refine gB 3 #[.int .i64 a0_0, .int .i64 a0_1, .bool a0_2] 28 ?_; intro gb676 hg w5 BK676 hb; have GW676 := bG HB hg; replace HB := bS HB hb; clear hb hg) | (refine gB 5 #[.int .i64 a2_0, .int .i64 a2_1, .bool a2_2] 28 ?_; intro gb677 hg w6 BK677 hb; have GW677 := bG HB hg; replace HB := bS HB hb; obtain ⟨NB676_677, NB677_676⟩ := bN BK676 hg; replace BK676 := bB BK676 hb; clear hb hg))
 (try simp only [Act.put, List.setIfInBounds_toArray, List.set_cons_zero, List.set_cons_succ])
 go_cut [22] (fun v22 wc => ∃ (kq : Nat) (x22_3 : Bool), v22 = .bool x22_3 ∧ Aside0 (spec_SigOk.j0 kq a1 x22_3 a0_0 a0_1 a0_2 a2_0 a2_1 a2_2 = some r) ∧ Aside0 (kq ≤ k) ∧ Aside0 (wc.heap[gb676]? = some (.cells #[.int .i64 a0_0, .int .i64 a0_1, .bool a0_2] 28 (0, 0))) ∧ Aside0 (wc.heap[gb677]? = some (.cells #[.int .i64 a2_0, .int .i64 a2_1, .bool a2_2] 28 (0, 0))) ∧ Aside0 (Below w.heap.size w wc))
 case first =>
  have H := HC4.out
  clear HC4
  replace H := Option.bind_eq_some_iff.mp H
  obtain ⟨t678, A70, H⟩ := H
  have A7 := Aside0.mk A70
  clear A70
  by_cases c8 : t678 = true
  ·subst c8
   rw [if_pos rfl] at H
   replace H := Option.bind_eq_some_iff.mp H
   obtain ⟨t679, A90, H⟩ := H
   have A9 := Aside0.mk A90
   clear A90
   by_cases c10 : t679 = true
   ·subst c10
    rw [if_pos rfl] at H
    by_cases c11 : a0_2 = true
    ·subst c11
     rw [if_pos rfl] at H
     have H' := Aside0.mk H
     clear H
     obtain ⟨hnb12, hnc12⟩ := nB NB676_677
     obtain ⟨hcz13_0, hcz13_1, hcz13_2, hfz13_0, hfz13_1, hfz13_2⟩ := bK3 (w := w6) BK676
     go_wp2_with (first | (refine gC (some 8) Tryz.func67 #[.agg #[.int .i64 a0_0, .int .i64 a0_1, .bool true]] ?_; (with_reducible refine (spec_InGroup.calls k a0_0 a0_1 true true _ A7.out).mono ?_); rintro e w14 ⟨rfl, hb⟩; refine ⟨_, rfl, ?_⟩; replace BK676 := bB BK676 hb; replace BK677 := bB BK677 hb; replace HB := bS HB hb; (try clear hb); obtain ⟨hcz15_0, hcz15_1, hcz15_2, hfz15_0, hfz15_1, hfz15_2⟩ := bK3 (w := w14) BK677) | (go_at_call 67; (with_reducible refine (spec_InGroup.calls k a2_0 a2_1 a2_2 true _ A9.out).mono ?_); rintro e w16 ⟨rfl, hb⟩; replace BK676 := bB BK676 hb; replace BK677 := bB BK677 hb; replace HB := bS HB hb; (try clear hb); obtain ⟨hcz17_0, hcz17_1, hcz17_2, hfz17_0, hfz17_1, hfz17_2⟩ := bK3 (w := w16) BK676))
     go_meet
     case rel => exact ⟨_, (true), rS, H', ⟨by first | omega | exact Nat.le_refl _⟩, ⟨bP BK676⟩, ⟨bP BK677⟩, ⟨bZ HB⟩⟩
    ·replace c11 := Bool.eq_false_iff.mpr c11
     subst c11
     rw [if_neg (show ¬ (false = true) by decide)] at H
     have H' := Aside0.mk H
     clear H
     obtain ⟨hnb18, hnc18⟩ := nB NB676_677
     obtain ⟨hcz19_0, hcz19_1, hcz19_2, hfz19_0, hfz19_1, hfz19_2⟩ := bK3 (w := w6) BK676
     go_wp2_with (first | (refine gC (some 8) Tryz.func67 #[.agg #[.int .i64 a0_0, .int .i64 a0_1, .bool false]] ?_; (with_reducible refine (spec_InGroup.calls k a0_0 a0_1 false true _ A7.out).mono ?_); rintro e w20 ⟨rfl, hb⟩; refine ⟨_, rfl, ?_⟩; replace BK676 := bB BK676 hb; replace BK677 := bB BK677 hb; replace HB := bS HB hb; (try clear hb); obtain ⟨hcz21_0, hcz21_1, hcz21_2, hfz21_0, hfz21_1, hfz21_2⟩ := bK3 (w := w20) BK677) | (go_at_call 67; (with_reducible refine (spec_InGroup.calls k a2_0 a2_1 a2_2 true _ A9.out).mono ?_); rintro e w22 ⟨rfl, hb⟩; replace BK676 := bB BK676 hb; replace BK677 := bB BK677 hb; replace HB := bS HB hb; (try clear hb); obtain ⟨hcz23_0, hcz23_1, hcz23_2, hfz23_0, hfz23_1, hfz23_2⟩ := bK3 (w := w22) BK676; obtain ⟨hcz24_0, hcz24_1, hcz24_2, hfz24_0, hfz24_1, hfz24_2⟩ := bK3 (w := w22) BK677))
     go_meet
     case rel => exact ⟨_, (a2_2), rS, H', ⟨by first | omega | exact Nat.le_refl _⟩, ⟨bP BK676⟩, ⟨bP BK677⟩, ⟨bZ HB⟩⟩
   ·replace c10 := Bool.eq_false_iff.mpr c10
    subst c10
    rw [if_neg (show ¬ (false = true) by decide)] at H
    have H' := Aside0.mk H
    clear H
    obtain ⟨hnb25, hnc25⟩ := nB NB676_677
    obtain ⟨hcz26_0, hcz26_1, hcz26_2, hfz26_0, hfz26_1, hfz26_2⟩ := bK3 (w := w6) BK676
    go_wp2_with (first | (refine gC (some 8) Tryz.func67 #[.agg #[.int .i64 a0_0, .int .i64 a0_1, .bool a0_2]] ?_; (with_reducible refine (spec_InGroup.calls k a0_0 a0_1 a0_2 true _ A7.out).mono ?_); rintro e w27 ⟨rfl, hb⟩; refine ⟨_, rfl, ?_⟩; replace BK676 := bB BK676 hb; replace BK677 := bB BK677 hb; replace HB := bS HB hb; (try clear hb); obtain ⟨hcz28_0, hcz28_1, hcz28_2, hfz28_0, hfz28_1, hfz28_2⟩ := bK3 (w := w27) BK677) | (go_at_call 67; (with_reducible refine (spec_InGroup.calls k a2_0 a2_1 a2_2 false _ A9.out).mono ?_); rintro e w29 ⟨rfl, hb⟩; replace BK676 := bB BK676 hb; replace BK677 := bB BK677 hb; replace HB := bS HB hb; (try clear hb)))
    go_meet
    case rel => exact ⟨_, (true), rS, H', ⟨by first | omega | exact Nat.le_refl _⟩, ⟨bP BK676⟩, ⟨bP BK677⟩, ⟨bZ HB⟩⟩
  ·replace c8 := Bool.eq_false_iff.mpr c8
   subst c8
   rw [if_neg (show ¬ (false = true) by decide)] at H
   have H' := Aside0.mk H
   clear H
   obtain ⟨hnb30, hnc30⟩ := nB NB676_677
   obtain ⟨hcz31_0, hcz31_1, hcz31_2, hfz31_0, hfz31_1, hfz31_2⟩ := bK3 (w := w6) BK676
   go_wp2_with (first | (refine gC (some 8) Tryz.func67 #[.agg #[.int .i64 a0_0, .int .i64 a0_1, .bool a0_2]] ?_; (with_reducible refine (spec_InGroup.calls k a0_0 a0_1 a0_2 false _ A7.out).mono ?_); rintro e w32 ⟨rfl, hb⟩; refine ⟨_, rfl, ?_⟩; replace BK676 := bB BK676 hb; replace BK677 := bB BK677 hb; replace HB := bS HB hb; (try clear hb)))
   go_meet
   case rel => exact ⟨_, (true), rS, H', ⟨by first | omega | exact Nat.le_refl _⟩, ⟨bP BK676⟩, ⟨bP BK677⟩, ⟨bZ HB⟩⟩
 case rest =>
  clear HC4
  try clear c1
  try clear c2
  try clear p2
  try clear c3
  try clear c6
  try clear c8
  try clear c10
  try clear c11
  try clear c12
  try clear c18
  try clear c23
  try clear c25
  try clear c30
  try clear hcz13_0
  try clear hcz13_1
  try clear hcz13_2
  try clear hcz15_0
  try clear hcz15_1
  try clear hcz15_2
  try clear hcz17_0
  try clear hcz17_1
  try clear hcz17_2
  try clear hcz19_0
  try clear hcz19_1
  try clear hcz19_2
  try clear hcz21_0
  try clear hcz21_1
  try clear hcz21_2
  try clear hcz23_0
  try clear hcz23_1
  try clear hcz23_2
  try clear hcz24_0
  try clear hcz24_1
  try clear hcz24_2
  try clear hcz26_0
  try clear hcz26_1
  try clear hcz26_2
  try clear hcz28_0
  try clear hcz28_1
  try clear hcz28_2
  try clear hcz31_0
  try clear hcz31_1
  try clear hcz31_2
  try clear hfz13_0
  try clear hfz13_1
  try clear hfz13_2
  try clear hfz15_0
  try clear hfz15_1
  try clear hfz15_2
  try clear hfz17_0
  try clear hfz17_1
  try clear hfz17_2
  try clear hfz19_0
  try clear hfz19_1
  try clear hfz19_2
  try clear hfz21_0
  try clear hfz21_1
  try clear hfz21_2
  try clear hfz23_0
  try clear hfz23_1
  try clear hfz23_2
  try clear hfz24_0
  try clear hfz24_1
  try clear hfz24_2
  try clear hfz26_0
  try clear hfz26_1
  try clear hfz26_2
  try clear hfz28_0
  try clear hfz28_1
  try clear hfz28_2
  try clear hfz31_0
  try clear hfz31_1
  try clear hfz31_2
  obtain ⟨kq, x22_3, rfl, HA, HJ3, BK676, BK677, HB⟩ := hcut
  cases kq with
  | zero => exact absurd HA.out (by simp [spec_SigOk.j0])
  | succ kj3 =>
   have H := HA.out
   clear HA
   simp only [spec_SigOk.j0] at H
   by_cases c33 : x22_3 = true
   ·subst c33
    rw [if_pos rfl] at H
    obtain rfl := Option.some.inj H
    go_wp2
    go_ret
    exact ⟨rR, bZ HB⟩
   ·replace c33 := Bool.eq_false_iff.mpr c33
    subst c33
    rw [if_neg (show ¬ (false = true) by decide)] at H
    replace H := Option.bind_eq_some_iff.mp H
    obtain ⟨⟨t680, t681, t682⟩, A340, H⟩ := H
    have A34 := Aside0.mk A340
    clear A340
    replace H := Option.bind_eq_some_iff.mp H
    obtain ⟨⟨t683, t684⟩, A350, H⟩ := H
    have A35 := Aside0.mk A350
    clear A350
    replace H := Option.bind_eq_some_iff.mp H
    obtain ⟨⟨t685, t686, t687⟩, A360, H⟩ := H
    have A36 := Aside0.mk A360
    clear A360
    replace H := Option.bind_eq_some_iff.mp H
    obtain ⟨⟨t688, t689⟩, A370, H⟩ := H
    have A37 := Aside0.mk A370
    clear A370
    obtain rfl := Option.some.inj H
    try go_wp2
    replace BK676 := Aside0.mk (blk_drew BK676.out)
    replace BK677 := Aside0.mk (blk_drew BK677.out)
    replace HB := Aside0.mk (below_drew1 HB.out)
    refine start_ (n := 9) (S := fun w' => SP3 w' gb677 (.int .i64 a2_0) (.int .i64 a2_1) (.bool a2_2) (SQ3 w' gb676 (.int .i64 a0_0) (.int .i64 a0_1) (.bool a0_2))) (ds := []) #[false, false, false, false, false, false, false, false, false] (by kernel_rfl) rfl rfl (bS3 BK677 (bT3 BK676)) (fun hHeld => ?_); refine with_tabW spec_SigOk.tab3 spec_SigOk.bits3 (fun HT_ HW_ => ?_)
    generalize wc.drew = w38 at BK676 BK677 HB hHeld ⊢
    refine pI 3 (some 26) HT_.out ?_
    refine tI6 0 (some 23) HT_.out HW_.out hHeld ?_
    refine tI6 5 (some 28) HT_.out HW_.out hHeld ?_
    refine oI 1 (some 24) HT_.out (fun K hK => ?_)
    refine gO Tryz.func66 #[] ?_
    with_reducible refine (spec_Base.calls  t680 t681 t682 _ A34.out).mono ?_
    rintro e w39 ⟨rfl, hb⟩
    refine ⟨_, rfl, ?_⟩
    replace BK676 := bB BK676 hb
    replace BK677 := bB BK677 hb
    replace HB := bS HB hb
    (try clear hb)
    refine hK.out _ _ (bS3 BK677 (bT3 BK676)) (fun hHeld => ?_)
    clear hK K
    refine nO (some 24) ?_
    refine oI 2 (some 25) HT_.out (fun K hK => ?_)
    refine gO Tryz.func68 #[.agg #[.int .i64 a2_0, .int .i64 a2_1, .bool a2_2], .agg #[.int .i64 t680, .int .i64 t681, .bool t682]] ?_
    with_reducible refine (spec_Pairing.calls kj3 a2_0 a2_1 a2_2 t680 t681 t682 t683 t684 _ A35.out).mono ?_
    rintro e w40 ⟨rfl, hb⟩
    refine ⟨_, rfl, ?_⟩
    replace BK676 := bB BK676 hb
    replace BK677 := bB BK677 hb
    replace HB := bS HB hb
    (try clear hb)
    refine hK.out _ _ (bS3 BK677 (bT3 BK676)) (fun hHeld => ?_)
    clear hK K
    refine nO (some 25) ?_
    refine oI 4 (some 27) HT_.out (fun K hK => ?_)
    refine gO Tryz.func22 #[.string a1] ?_
    with_reducible refine (spec_HashPoint.calls kj3 a1 t685 t686 t687 _ A36.out).mono ?_
    rintro e w41 ⟨rfl, hb⟩
    refine ⟨_, rfl, ?_⟩
    replace BK676 := bB BK676 hb
    replace BK677 := bB BK677 hb
    replace HB := bS HB hb
    (try clear hb)
    refine hK.out _ _ (bS3 BK677 (bT3 BK676)) (fun hHeld => ?_)
    clear hK K
    refine nO (some 27) ?_
    refine oI 6 (some 29) HT_.out (fun K hK => ?_)
    refine gO Tryz.func68 #[.agg #[.int .i64 t685, .int .i64 t686, .bool t687], .agg #[.int .i64 a0_0, .int .i64 a0_1, .bool a0_2]] ?_
    with_reducible refine (spec_Pairing.calls kj3 t685 t686 t687 a0_0 a0_1 a0_2 t688 t689 _ A37.out).mono ?_
    rintro e w42 ⟨rfl, hb⟩
    refine ⟨_, rfl, ?_⟩
    replace BK676 := bB BK676 hb
    replace BK677 := bB BK677 hb
    replace HB := bS HB hb
    (try clear hb)
    refine hK.out _ _ (bS3 BK677 (bT3 BK676)) (fun hHeld => ?_)
    clear hK K
    refine nO (some 29) ?_
    refine pI 7 (some 30) HT_.out ?_
    refine pI 8 (some 6) HT_.out ?_
    refine done_ (done_of HT_.out (by kernel_rfl)) ?_
    try go_wp2
    go_ret
    exact ⟨rR, bZ HB⟩
end Go.Proofs.YtkdmplfldfagnaaGreatDoor.Pf
end
