/- What is proved here: part 2 of 5 of the proof of the given statement FnPairsKnown: the contracts of the Go functions that it reaches, the plain facts on lists and numbers, and (in the last part) the statement itself. No conditions beyond the given ones. -/
import Derived.Test.YtmbjefdkjdemhaaMFnPairsKnownwSlim
import Derived.Test.YtmbjefdkjdemhaaMFnPairsKnowna

section
namespace Go.Proofs.Ytmbjefdkjdemhaa.Pf
open Go.RowKit Go.Proofs.YtmbjefdkjdemhaaW.PrintWords Go.Proofs.YtmbjefdkjdemhaaW.PrintLast Go.Proofs.YtmbjefdkjdemhaaW.PrintMore
attribute [local go_sem] max2_int min2_int max_two min_two max_three min_three max_four min_four   -- for this text's walks alone
set_option linter.unusedVariables false
set_option linter.unusedSimpArgs false
/-! ### impl_PairLine: function 25 -/
def impl_PairLine.j0 : Nat → Bool → Int → Int → Bool → Int → Int → Bool → Int → Int → Bool → Int → Int → Option (Int × Int)
 | 0, _, _, _, _, _, _, _, _, _, _, _, _ => none
 | k + 1, x36, x730000, x730001, x730002, x731000, x731001, x731002, x732000, x732001, x732002, x734000, x734001 => if x36 = true then (some (x734000, x734001)) else ((impl_slopeOf.f k x730000 x730001 x730002 x731000 x731001 x731002).bind fun bt737 => (if bt737.2 = true then ((impl_FpSub.f 0 x732000).bind fun t739 => ((impl_FpSub.f t739 x730000).bind fun t740 => ((impl_FpSub.f 0 x730001).bind fun t741 => ((impl_FpMul.f bt737.1 t740).bind fun t742 => ((impl_FpSub.f t741 t742).bind fun t743 => (some (t743, x732001))))))) else (some (x734000, x734001))))
def impl_PairLine.f (k : Nat) (a0_0 : Int) (a0_1 : Int) (a0_2 : Bool) (a1_0 : Int) (a1_1 : Int) (a1_2 : Bool) (a2_0 : Int) (a2_1 : Int) (a2_2 : Bool) : Option (Int × Int) := if a0_2 = true then (impl_PairLine.j0 k true a0_0 a0_1 a0_2 a1_0 a1_1 a1_2 a2_0 a2_1 a2_2 1 0) else (if a1_2 = true then (impl_PairLine.j0 k true a0_0 a0_1 a0_2 a1_0 a1_1 a1_2 a2_0 a2_1 a2_2 1 0) else (if a2_2 = true then (impl_PairLine.j0 k true a0_0 a0_1 a0_2 a1_0 a1_1 a1_2 a2_0 a2_1 a2_2 1 0) else ((impl_PointOk.f a0_0 a0_1 a0_2).bind fun t734 => (if t734 = true then ((impl_PointOk.f a1_0 a1_1 a1_2).bind fun t735 => (if t735 = true then ((impl_PointOk.f a2_0 a2_1 a2_2).bind fun t736 => (impl_PairLine.j0 k (!t736) a0_0 a0_1 a0_2 a1_0 a1_1 a1_2 a2_0 a2_1 a2_2 1 0)) else (impl_PairLine.j0 k true a0_0 a0_1 a0_2 a1_0 a1_1 a1_2 a2_0 a2_1 a2_2 1 0))) else (impl_PairLine.j0 k true a0_0 a0_1 a0_2 a1_0 a1_1 a1_2 a2_0 a2_1 a2_2 1 0)))))
theorem impl_PairLine.mono_l : ∀ k, (∀ y0 y1 y2 y3 y4 y5 y6 y7 y8 y9 y10 y11, LeO (impl_PairLine.j0 k y0 y1 y2 y3 y4 y5 y6 y7 y8 y9 y10 y11) (impl_PairLine.j0 (k + 1) y0 y1 y2 y3 y4 y5 y6 y7 y8 y9 y10 y11))
 | 0 => fun _ _ _ _ _ _ _ _ _ _ _ _ r h => by simp [impl_PairLine.j0] at h
 | k + 1 => by
  have ih0 := impl_PairLine.mono_l k
  ·intro y0 y1 y2 y3 y4 y5 y6 y7 y8 y9 y10 y11
   unfold impl_PairLine.j0
   repeat' first
   | (with_reducible exact ih0 _ _ _ _ _ _ _ _ _ _ _ _)
   | (with_reducible exact impl_slopeOf.mono _ _ _ _ _ _ _)
   | (with_reducible exact LeO.refl _)
   | (with_reducible exact LeO.none _)
   | (with_reducible refine LeO.ite ?_ ?_)
   | (with_reducible refine LeO.bind ?_ (fun _ => ?_))
   | exact ih0 _ _ _ _ _ _ _ _ _ _ _ _
   | exact impl_slopeOf.mono _ _ _ _ _ _ _
   | exact LeO.none _
   | refine LeO.ite ?_ ?_
   | refine LeO.bind ?_ (fun _ => ?_)
theorem impl_PairLine.mono : ∀ a0 a1 a2 a3 a4 a5 a6 a7 a8 k, LeO (impl_PairLine.f k a0 a1 a2 a3 a4 a5 a6 a7 a8) (impl_PairLine.f (k + 1) a0 a1 a2 a3 a4 a5 a6 a7 a8) := by
 intro a0 a1 a2 a3 a4 a5 a6 a7 a8 k
 have ih0 := impl_PairLine.mono_l k
 unfold impl_PairLine.f
 repeat' first
   | (with_reducible exact ih0 _ _ _ _ _ _ _ _ _ _ _ _)
   | (with_reducible exact impl_slopeOf.mono _ _ _ _ _ _ _)
   | (with_reducible exact LeO.refl _)
   | (with_reducible exact LeO.none _)
   | (with_reducible refine LeO.ite ?_ ?_)
   | (with_reducible refine LeO.bind ?_ (fun _ => ?_))
   | exact ih0 _ _ _ _ _ _ _ _ _ _ _ _
   | exact impl_slopeOf.mono _ _ _ _ _ _ _
   | exact LeO.none _
   | refine LeO.ite ?_ ?_
   | refine LeO.bind ?_ (fun _ => ?_)
def impl_PairLine.T8 : Bool × List (List Nat × List Nat) := (true, [([], []), ([0], [0]), ([1], [1]), ([], []), ([], []), ([3, 4, 2], [3, 4]), ([2, 5, 5], [2, 5]), ([], []), ([7], [7]), ([6, 8], [6, 8]), ([9, 6, 0, 1, 2, 3, 4, 5, 6, 7, 8, 9], [9])])
def impl_PairLine.B8 : List Nat := [0, 1, 3, 0, 0, 31, 63, 0, 128, 511, 1023]
theorem impl_PairLine.tab8 : rtab .any (opsOf Try.f25 8) = impl_PairLine.T8 := by kernel_rfl
theorem impl_PairLine.bits8 : waitsOk impl_PairLine.T8.2 impl_PairLine.B8 = true := by kernel_rfl
set_option maxHeartbeats 8000000 in
set_option maxRecDepth 100000 in
theorem impl_PairLine.calls (k : Nat) (a0_0 : Int) (a0_1 : Int) (a0_2 : Bool) (a1_0 : Int) (a1_1 : Int) (a1_2 : Bool) (a2_0 : Int) (a2_1 : Int) (a2_2 : Bool) (r1 : Int) (r2 : Int) (w : World) (h : impl_PairLine.f k a0_0 a0_1 a0_2 a1_0 a1_1 a1_2 a2_0 a2_1 a2_2 = some (r1, r2)) :
  Calls Try.prog 25 #[.agg #[.int .i64 a0_0, .int .i64 a0_1, .bool a0_2], .agg #[.int .i64 a1_0, .int .i64 a1_1, .bool a1_2], .agg #[.int .i64 a2_0, .int .i64 a2_1, .bool a2_2]] w fun e w' => e = .returned (.agg #[.int .i64 r1, .int .i64 r2]) ∧ Below w.heap.size w w' := by
 have hu25 := Try.underlying25
 have hu31 := Try.underlying31
 have HB := Aside0.mk (Below.refl w.heap.size w)
 have H : (if a0_2 = true then (impl_PairLine.j0 k true a0_0 a0_1 a0_2 a1_0 a1_1 a1_2 a2_0 a2_1 a2_2 1 0) else (if a1_2 = true then (impl_PairLine.j0 k true a0_0 a0_1 a0_2 a1_0 a1_1 a1_2 a2_0 a2_1 a2_2 1 0) else (if a2_2 = true then (impl_PairLine.j0 k true a0_0 a0_1 a0_2 a1_0 a1_1 a1_2 a2_0 a2_1 a2_2 1 0) else ((impl_PointOk.f a0_0 a0_1 a0_2).bind fun t734 => (if t734 = true then ((impl_PointOk.f a1_0 a1_1 a1_2).bind fun t735 => (if t735 = true then ((impl_PointOk.f a2_0 a2_1 a2_2).bind fun t736 => (impl_PairLine.j0 k (!t736) a0_0 a0_1 a0_2 a1_0 a1_1 a1_2 a2_0 a2_1 a2_2 1 0)) else (impl_PairLine.j0 k true a0_0 a0_1 a0_2 a1_0 a1_1 a1_2 a2_0 a2_1 a2_2 1 0))) else (impl_PairLine.j0 k true a0_0 a0_1 a0_2 a1_0 a1_1 a1_2 a2_0 a2_1 a2_2 1 0)))))) = some (r1, r2) := h
 clear h
 have HC4 := Aside0.mk H
 clear H
 go_enter Try.func25, Try.ntmps25
 go_upto_region 2 with (first | ((with_reducible refine gate_dst (N := 3) rfl ?_); refine bE 3 #[.int .i64 a0_0, .int .i64 a0_1, .bool a0_2] 25 ?_; intro gb729 hg w5 hbox hb; have BK729 := Aside0.mk (hbox); have GW729 := bG HB hg; have GE729 := bG HB hg; replace HB := bS HB hb; clear hb hbox hg) | ((with_reducible refine gate_dst (N := 4) rfl ?_); refine bE 4 #[.int .i64 a1_0, .int .i64 a1_1, .bool a1_2] 25 ?_; intro gb730 hg w6 hbox hb; have BK730 := Aside0.mk (hbox); have GW730 := bG HB hg; have GE730 := bG HB hg; replace HB := bS HB hb; have NB729_730 := bL BK729 hg; have NB730_729 := bR BK729 hg; replace BK729 := bB BK729 hb; clear hb hbox hg) | ((with_reducible refine gate_dst (N := 5) rfl ?_); refine bE 5 #[.int .i64 a2_0, .int .i64 a2_1, .bool a2_2] 25 ?_; intro gb731 hg w7 hbox hb; have BK731 := Aside0.mk (hbox); have GW731 := bG HB hg; have GE731 := bG HB hg; replace HB := bS HB hb; have NB729_731 := bL BK729 hg; have NB731_729 := bR BK729 hg; replace BK729 := bB BK729 hb; have NB730_731 := bL BK730 hg; have NB731_730 := bR BK730 hg; replace BK730 := bB BK730 hb; clear hb hbox hg) | ((with_reducible refine gate_dst (N := 6) rfl ?_); refine bE 6 #[.int .i64 0, .int .i64 0] 31 ?_; intro gb732 hg w8 hbox hb; have BK732 := Aside0.mk (hbox); have GW732 := bG HB hg; have GE732 := bG HB hg; replace HB := bS HB hb; have NB729_732 := bL BK729 hg; have NB732_729 := bR BK729 hg; replace BK729 := bB BK729 hb; have NB730_732 := bL BK730 hg; have NB732_730 := bR BK730 hg; replace BK730 := bB BK730 hb; have NB731_732 := bL BK731 hg; have NB732_731 := bR BK731 hg; replace BK731 := bB BK731 hb; clear hb hbox hg) | ((with_reducible refine gate_dst (N := 7) rfl ?_); refine bE 7 #[.int .i64 0, .int .i64 0] 31 ?_; intro gb733 hg w9 hbox hb; have BK733 := Aside0.mk (hbox); have GW733 := bG HB hg; have GE733 := bG HB hg; replace HB := bS HB hb; have NB729_733 := bL BK729 hg; have NB733_729 := bR BK729 hg; replace BK729 := bB BK729 hb; have NB730_733 := bL BK730 hg; have NB733_730 := bR BK730 hg; replace BK730 := bB BK730 hb; have NB731_733 := bL BK731 hg; have NB733_731 := bR BK731 hg; replace BK731 := bB BK731 hb; have NB732_733 := bL BK732 hg; have NB733_732 := bR BK732 hg; replace BK732 := bB BK732 hb; clear hb hbox hg; obtain ⟨hnb10, hnc10⟩ := nB NB733_729; obtain ⟨hnb11, hnc11⟩ := nB NB733_730; obtain ⟨hnb12, hnc12⟩ := nB NB733_731; obtain ⟨hnb13, hnc13⟩ := nB NB733_732; obtain ⟨hcz14_0, hcz14_1, hfz14_0, hfz14_1⟩ := bK2 (w := w9) BK733))
 (try simp only [Act.put, List.setIfInBounds_toArray, List.set_cons_zero, List.set_cons_succ])
 go_cut [36] (fun v36 wc => ∃ (kq : Nat) (x36_3 : Bool), v36 = .bool x36_3 ∧ Aside0 (impl_PairLine.j0 kq x36_3 a0_0 a0_1 a0_2 a1_0 a1_1 a1_2 a2_0 a2_1 a2_2 1 0 = some (r1, r2)) ∧ Aside0 (kq ≤ k) ∧ Aside0 (wc.heap[gb729]? = some (.cells #[.int .i64 a0_0, .int .i64 a0_1, .bool a0_2] 25 (0, 0))) ∧ Aside0 (wc.heap[gb730]? = some (.cells #[.int .i64 a1_0, .int .i64 a1_1, .bool a1_2] 25 (0, 0))) ∧ Aside0 (wc.heap[gb731]? = some (.cells #[.int .i64 a2_0, .int .i64 a2_1, .bool a2_2] 25 (0, 0))) ∧ Aside0 (wc.heap[gb732]? = some (.cells #[.int .i64 0, .int .i64 0] 31 (0, 0))) ∧ Aside0 (wc.heap[gb733]? = some (.cells #[.int .i64 1, .int .i64 0] 31 (0, 0))) ∧ Aside0 (Below w.heap.size w wc))
 case first =>
  have H := HC4.out
  clear HC4
  by_cases c15 : a0_2 = true
  ·subst c15
   rw [if_pos rfl] at H
   have H' := Aside0.mk H
   clear H
   obtain ⟨hnb16, hnc16⟩ := nB NB729_730
   obtain ⟨hnb17, hnc17⟩ := nB NB729_731
   obtain ⟨hnb18, hnc18⟩ := nB NB729_732
   obtain ⟨hnb19, hnc19⟩ := nB NB729_733
   obtain ⟨hcz20_0, hcz20_1, hcz20_2, hfz20_0, hfz20_1, hfz20_2⟩ := bK3 (w := w9) BK729
   go_wp2
   go_meet
   case rel => exact ⟨_, (true), rS, H', ⟨by first | omega | exact Nat.le_refl _⟩, ⟨bP BK729⟩, ⟨bP BK730⟩, ⟨bP BK731⟩, ⟨bP BK732⟩, ⟨bU BK733⟩, ⟨bZ HB⟩⟩
  ·replace c15 := Bool.eq_false_iff.mpr c15
   subst c15
   rw [if_neg (show ¬ (false = true) by decide)] at H
   by_cases c21 : a1_2 = true
   ·subst c21
    rw [if_pos rfl] at H
    have H' := Aside0.mk H
    clear H
    obtain ⟨hnb22, hnc22⟩ := nB NB729_730
    obtain ⟨hnb23, hnc23⟩ := nB NB729_731
    obtain ⟨hnb24, hnc24⟩ := nB NB729_732
    obtain ⟨hnb25, hnc25⟩ := nB NB729_733
    obtain ⟨hcz26_0, hcz26_1, hcz26_2, hfz26_0, hfz26_1, hfz26_2⟩ := bK3 (w := w9) BK729
    obtain ⟨hnb27, hnc27⟩ := nB NB730_731
    obtain ⟨hnb28, hnc28⟩ := nB NB730_732
    obtain ⟨hnb29, hnc29⟩ := nB NB730_733
    obtain ⟨hcz30_0, hcz30_1, hcz30_2, hfz30_0, hfz30_1, hfz30_2⟩ := bK3 (w := w9) BK730
    go_wp2
    go_meet
    case rel => exact ⟨_, (true), rS, H', ⟨by first | omega | exact Nat.le_refl _⟩, ⟨bP BK729⟩, ⟨bP BK730⟩, ⟨bP BK731⟩, ⟨bP BK732⟩, ⟨bU BK733⟩, ⟨bZ HB⟩⟩
   ·replace c21 := Bool.eq_false_iff.mpr c21
    subst c21
    rw [if_neg (show ¬ (false = true) by decide)] at H
    by_cases c31 : a2_2 = true
    ·subst c31
     rw [if_pos rfl] at H
     have H' := Aside0.mk H
     clear H
     obtain ⟨hnb32, hnc32⟩ := nB NB729_730
     obtain ⟨hnb33, hnc33⟩ := nB NB729_731
     obtain ⟨hnb34, hnc34⟩ := nB NB729_732
     obtain ⟨hnb35, hnc35⟩ := nB NB729_733
     obtain ⟨hcz36_0, hcz36_1, hcz36_2, hfz36_0, hfz36_1, hfz36_2⟩ := bK3 (w := w9) BK729
     obtain ⟨hnb37, hnc37⟩ := nB NB730_731
     obtain ⟨hnb38, hnc38⟩ := nB NB730_732
     obtain ⟨hnb39, hnc39⟩ := nB NB730_733
     obtain ⟨hcz40_0, hcz40_1, hcz40_2, hfz40_0, hfz40_1, hfz40_2⟩ := bK3 (w := w9) BK730
     obtain ⟨hnb41, hnc41⟩ := nB NB731_732
     obtain ⟨hnb42, hnc42⟩ := nB NB731_733
     obtain ⟨hcz43_0, hcz43_1, hcz43_2, hfz43_0, hfz43_1, hfz43_2⟩ := bK3 (w := w9) BK731
     go_wp2
     go_meet
     case rel => exact ⟨_, (true), rS, H', ⟨by first | omega | exact Nat.le_refl _⟩, ⟨bP BK729⟩, ⟨bP BK730⟩, ⟨bP BK731⟩, ⟨bP BK732⟩, ⟨bU BK733⟩, ⟨bZ HB⟩⟩
    ·replace c31 := Bool.eq_false_iff.mpr c31
     subst c31
     rw [if_neg (show ¬ (false = true) by decide)] at H
     replace H := Option.bind_eq_some_iff.mp H
     obtain ⟨t734, A440, H⟩ := H
     have A44 := Aside0.mk A440
     clear A440
     by_cases c45 : t734 = true
     ·subst c45
      rw [if_pos rfl] at H
      replace H := Option.bind_eq_some_iff.mp H
      obtain ⟨t735, A460, H⟩ := H
      have A46 := Aside0.mk A460
      clear A460
      by_cases c47 : t735 = true
      ·subst c47
       rw [if_pos rfl] at H
       replace H := Option.bind_eq_some_iff.mp H
       obtain ⟨t736, A480, H⟩ := H
       have A48 := Aside0.mk A480
       clear A480
       have H' := Aside0.mk H
       clear H
       obtain ⟨hnb49, hnc49⟩ := nB NB729_730
       obtain ⟨hnb50, hnc50⟩ := nB NB729_731
       obtain ⟨hnb51, hnc51⟩ := nB NB729_732
       obtain ⟨hnb52, hnc52⟩ := nB NB729_733
       obtain ⟨hcz53_0, hcz53_1, hcz53_2, hfz53_0, hfz53_1, hfz53_2⟩ := bK3 (w := w9) BK729
       obtain ⟨hnb54, hnc54⟩ := nB NB730_731
       obtain ⟨hnb55, hnc55⟩ := nB NB730_732
       obtain ⟨hnb56, hnc56⟩ := nB NB730_733
       obtain ⟨hcz57_0, hcz57_1, hcz57_2, hfz57_0, hfz57_1, hfz57_2⟩ := bK3 (w := w9) BK730
       obtain ⟨hnb58, hnc58⟩ := nB NB731_732
       obtain ⟨hnb59, hnc59⟩ := nB NB731_733
       obtain ⟨hcz60_0, hcz60_1, hcz60_2, hfz60_0, hfz60_1, hfz60_2⟩ := bK3 (w := w9) BK731
       go_wp2_with (first | (go_at_call 31; (with_reducible refine (impl_PointOk.calls a0_0 a0_1 false true _ A44.out).mono ?_); rintro e w61 ⟨rfl, hb⟩; replace BK729 := bB BK729 hb; replace BK730 := bB BK730 hb; replace BK731 := bB BK731 hb; replace BK732 := bB BK732 hb; replace BK733 := bV 31 #[.int .i64 1, .int .i64 0] BK733 hb; replace HB := bS HB hb; (try clear hb); obtain ⟨hcz62_0, hcz62_1, hcz62_2, hfz62_0, hfz62_1, hfz62_2⟩ := bK3 (w := w61) BK730) | (go_at_call 31; (with_reducible refine (impl_PointOk.calls a1_0 a1_1 false true _ A46.out).mono ?_); rintro e w63 ⟨rfl, hb⟩; replace BK729 := bB BK729 hb; replace BK730 := bB BK730 hb; replace BK731 := bB BK731 hb; replace BK732 := bB BK732 hb; replace BK733 := bB BK733 hb; replace HB := bS HB hb; (try clear hb); obtain ⟨hcz64_0, hcz64_1, hcz64_2, hfz64_0, hfz64_1, hfz64_2⟩ := bK3 (w := w63) BK731) | (go_at_call 31; (with_reducible refine (impl_PointOk.calls a2_0 a2_1 false t736 _ A48.out).mono ?_); rintro e w65 ⟨rfl, hb⟩; replace BK729 := bB BK729 hb; replace BK730 := bB BK730 hb; replace BK731 := bB BK731 hb; replace BK732 := bB BK732 hb; replace BK733 := bB BK733 hb; replace HB := bS HB hb; (try clear hb)))
       go_meet
       case rel => exact ⟨_, (!t736), rS, H', ⟨by first | omega | exact Nat.le_refl _⟩, ⟨bP BK729⟩, ⟨bP BK730⟩, ⟨bP BK731⟩, ⟨bP BK732⟩, ⟨bP BK733⟩, ⟨bZ HB⟩⟩
      ·replace c47 := Bool.eq_false_iff.mpr c47
       subst c47
       rw [if_neg (show ¬ (false = true) by decide)] at H
       have H' := Aside0.mk H
       clear H
       obtain ⟨hnb66, hnc66⟩ := nB NB729_730
       obtain ⟨hnb67, hnc67⟩ := nB NB729_731
       obtain ⟨hnb68, hnc68⟩ := nB NB729_732
       obtain ⟨hnb69, hnc69⟩ := nB NB729_733
       obtain ⟨hcz70_0, hcz70_1, hcz70_2, hfz70_0, hfz70_1, hfz70_2⟩ := bK3 (w := w9) BK729
       obtain ⟨hnb71, hnc71⟩ := nB NB730_731
       obtain ⟨hnb72, hnc72⟩ := nB NB730_732
       obtain ⟨hnb73, hnc73⟩ := nB NB730_733
       obtain ⟨hcz74_0, hcz74_1, hcz74_2, hfz74_0, hfz74_1, hfz74_2⟩ := bK3 (w := w9) BK730
       obtain ⟨hnb75, hnc75⟩ := nB NB731_732
       obtain ⟨hnb76, hnc76⟩ := nB NB731_733
       obtain ⟨hcz77_0, hcz77_1, hcz77_2, hfz77_0, hfz77_1, hfz77_2⟩ := bK3 (w := w9) BK731
       go_wp2_with (first | (go_at_call 31; (with_reducible refine (impl_PointOk.calls a0_0 a0_1 false true _ A44.out).mono ?_); rintro e w78 ⟨rfl, hb⟩; replace BK729 := bB BK729 hb; replace BK730 := bB BK730 hb; replace BK731 := bB BK731 hb; replace BK732 := bB BK732 hb; replace BK733 := bV 31 #[.int .i64 1, .int .i64 0] BK733 hb; replace HB := bS HB hb; (try clear hb); obtain ⟨hcz79_0, hcz79_1, hcz79_2, hfz79_0, hfz79_1, hfz79_2⟩ := bK3 (w := w78) BK730) | (go_at_call 31; (with_reducible refine (impl_PointOk.calls a1_0 a1_1 false false _ A46.out).mono ?_); rintro e w80 ⟨rfl, hb⟩; replace BK729 := bB BK729 hb; replace BK730 := bB BK730 hb; replace BK731 := bB BK731 hb; replace BK732 := bB BK732 hb; replace BK733 := bB BK733 hb; replace HB := bS HB hb; (try clear hb)))
       go_meet
       case rel => exact ⟨_, (true), rS, H', ⟨by first | omega | exact Nat.le_refl _⟩, ⟨bP BK729⟩, ⟨bP BK730⟩, ⟨bP BK731⟩, ⟨bP BK732⟩, ⟨bP BK733⟩, ⟨bZ HB⟩⟩
     ·replace c45 := Bool.eq_false_iff.mpr c45
      subst c45
      rw [if_neg (show ¬ (false = true) by decide)] at H
      have H' := Aside0.mk H
      clear H
      obtain ⟨hnb81, hnc81⟩ := nB NB729_730
      obtain ⟨hnb82, hnc82⟩ := nB NB729_731
      obtain ⟨hnb83, hnc83⟩ := nB NB729_732
      obtain ⟨hnb84, hnc84⟩ := nB NB729_733
      obtain ⟨hcz85_0, hcz85_1, hcz85_2, hfz85_0, hfz85_1, hfz85_2⟩ := bK3 (w := w9) BK729
      obtain ⟨hnb86, hnc86⟩ := nB NB730_731
      obtain ⟨hnb87, hnc87⟩ := nB NB730_732
      obtain ⟨hnb88, hnc88⟩ := nB NB730_733
      obtain ⟨hcz89_0, hcz89_1, hcz89_2, hfz89_0, hfz89_1, hfz89_2⟩ := bK3 (w := w9) BK730
      obtain ⟨hnb90, hnc90⟩ := nB NB731_732
      obtain ⟨hnb91, hnc91⟩ := nB NB731_733
      obtain ⟨hcz92_0, hcz92_1, hcz92_2, hfz92_0, hfz92_1, hfz92_2⟩ := bK3 (w := w9) BK731
      go_wp2_with (first | (go_at_call 31; (with_reducible refine (impl_PointOk.calls a0_0 a0_1 false false _ A44.out).mono ?_); rintro e w93 ⟨rfl, hb⟩; replace BK729 := bB BK729 hb; replace BK730 := bB BK730 hb; replace BK731 := bB BK731 hb; replace BK732 := bB BK732 hb; replace BK733 := bV 31 #[.int .i64 1, .int .i64 0] BK733 hb; replace HB := bS HB hb; (try clear hb)))
      go_meet
      case rel => exact ⟨_, (true), rS, H', ⟨by first | omega | exact Nat.le_refl _⟩, ⟨bP BK729⟩, ⟨bP BK730⟩, ⟨bP BK731⟩, ⟨bP BK732⟩, ⟨bP BK733⟩, ⟨bZ HB⟩⟩
 case rest =>
  clear HC4
  try clear c1
  try clear c2
  try clear p2
  try clear c3
  try clear c4
  try clear c5
  try clear c6
  try clear c7
  try clear c8
  try clear c9
  try clear c10
  try clear c11
  try clear c12
  try clear c13
  try clear c15
  try clear c16
  try clear c17
  try clear c18
  try clear c19
  try clear c21
  try clear c22
  try clear c23
  try clear c24
  try clear c25
  try clear c27
  try clear c28
  try clear c29
  try clear c31
  try clear c32
  try clear c33
  try clear c34
  try clear c35
  try clear c37
  try clear c38
  try clear c39
  try clear c41
  try clear c42
  try clear c45
  try clear c47
  try clear c49
  try clear c50
  try clear c51
  try clear c52
  try clear c54
  try clear c55
  try clear c56
  try clear c58
  try clear c59
  try clear c66
  try clear c67
  try clear c68
  try clear c69
  try clear c71
  try clear c72
  try clear c73
  try clear c75
  try clear c76
  try clear c81
  try clear c82
  try clear c83
  try clear c84
  try clear c86
  try clear c87
  try clear c88
  try clear c90
  try clear c91
  try clear hcz14_0
  try clear hcz14_1
  try clear hcz20_0
  try clear hcz20_1
  try clear hcz20_2
  try clear hcz26_0
  try clear hcz26_1
  try clear hcz26_2
  try clear hcz30_0
  try clear hcz30_1
  try clear hcz30_2
  try clear hcz36_0
  try clear hcz36_1
  try clear hcz36_2
  try clear hcz40_0
  try clear hcz40_1
  try clear hcz40_2
  try clear hcz43_0
  try clear hcz43_1
  try clear hcz43_2
  try clear hcz53_0
  try clear hcz53_1
  try clear hcz53_2
  try clear hcz57_0
  try clear hcz57_1
  try clear hcz57_2
  try clear hcz60_0
  try clear hcz60_1
  try clear hcz60_2
  try clear hcz62_0
  try clear hcz62_1
  try clear hcz62_2
  try clear hcz64_0
  try clear hcz64_1
  try clear hcz64_2
  try clear hcz70_0
  try clear hcz70_1
  try clear hcz70_2
  try clear hcz74_0
  try clear hcz74_1
  try clear hcz74_2
  try clear hcz77_0
  try clear hcz77_1
  try clear hcz77_2
  try clear hcz79_0
  try clear hcz79_1
  try clear hcz79_2
  try clear hcz85_0
  try clear hcz85_1
  try clear hcz85_2
  try clear hcz89_0
  try clear hcz89_1
  try clear hcz89_2
  try clear hcz92_0
  try clear hcz92_1
  try clear hcz92_2
  try clear hfz14_0
  try clear hfz14_1
  try clear hfz20_0
  try clear hfz20_1
  try clear hfz20_2
  try clear hfz26_0
  try clear hfz26_1
  try clear hfz26_2
  try clear hfz30_0
  try clear hfz30_1
  try clear hfz30_2
  try clear hfz36_0
  try clear hfz36_1
  try clear hfz36_2
  try clear hfz40_0
  try clear hfz40_1
  try clear hfz40_2
  try clear hfz43_0
  try clear hfz43_1
  try clear hfz43_2
  try clear hfz53_0
  try clear hfz53_1
  try clear hfz53_2
  try clear hfz57_0
  try clear hfz57_1
  try clear hfz57_2
  try clear hfz60_0
  try clear hfz60_1
  try clear hfz60_2
  try clear hfz62_0
  try clear hfz62_1
  try clear hfz62_2
  try clear hfz64_0
  try clear hfz64_1
  try clear hfz64_2
  try clear hfz70_0
  try clear hfz70_1
  try clear hfz70_2
  try clear hfz74_0
  try clear hfz74_1
  try clear hfz74_2
  try clear hfz77_0
  try clear hfz77_1
  try clear hfz77_2
  try clear hfz79_0
  try clear hfz79_1
  try clear hfz79_2
  try clear hfz85_0
  try clear hfz85_1
  try clear hfz85_2
  try clear hfz89_0
  try clear hfz89_1
  try clear hfz89_2
  try clear hfz92_0
  try clear hfz92_1
  try clear hfz92_2
  obtain ⟨kq, x36_3, rfl, HA, HJ3, BK729, BK730, BK731, BK732, BK733, HB⟩ := hcut
  cases kq with
  | zero => exact absurd HA.out (by simp [impl_PairLine.j0])
  | succ kj3 =>
   have H := HA.out
   clear HA
   simp only [impl_PairLine.j0] at H
   by_cases c94 : x36_3 = true
   ·subst c94
    rw [if_pos rfl] at H
    simp only [Option.some.injEq, Prod.mk.injEq] at H
    obtain ⟨rfl, rfl⟩ := H
    obtain ⟨hnb95, hnc95⟩ := nB NB733_729
    obtain ⟨hnb96, hnc96⟩ := nB NB733_730
    obtain ⟨hnb97, hnc97⟩ := nB NB733_731
    obtain ⟨hnb98, hnc98⟩ := nB NB733_732
    obtain ⟨hcz99_0, hcz99_1, hfz99_0, hfz99_1⟩ := bK2 (w := wc) BK733
    obtain ⟨hnb100, hnc100⟩ := nB NB732_729
    obtain ⟨hnb101, hnc101⟩ := nB NB732_730
    obtain ⟨hnb102, hnc102⟩ := nB NB732_731
    obtain ⟨hcz103_0, hcz103_1, hfz103_0, hfz103_1⟩ := bK2 (w := wc) BK732
    go_wp2
    refine rC gb732 31 #[.int .i64 1, .int .i64 0] (bU BK732) Try.underlying31 ?_
    exact ⟨rR, bZ HB⟩
   ·replace c94 := Bool.eq_false_iff.mpr c94
    subst c94
    rw [if_neg (show ¬ (false = true) by decide)] at H
    replace H := Option.bind_eq_some_iff.mp H
    obtain ⟨⟨t737, t738⟩, A1040, H⟩ := H
    have A104 := Aside0.mk A1040
    clear A1040
    by_cases c105 : t738 = true
    ·subst c105
     rw [if_pos rfl] at H
     replace H := Option.bind_eq_some_iff.mp H
     obtain ⟨t739, A1060, H⟩ := H
     have A106 := Aside0.mk A1060
     clear A1060
     replace H := Option.bind_eq_some_iff.mp H
     obtain ⟨t740, A1070, H⟩ := H
     have A107 := Aside0.mk A1070
     clear A1070
     replace H := Option.bind_eq_some_iff.mp H
     obtain ⟨t741, A1080, H⟩ := H
     have A108 := Aside0.mk A1080
     clear A1080
     replace H := Option.bind_eq_some_iff.mp H
     obtain ⟨t742, A1090, H⟩ := H
     have A109 := Aside0.mk A1090
     clear A1090
     replace H := Option.bind_eq_some_iff.mp H
     obtain ⟨t743, A1100, H⟩ := H
     have A110 := Aside0.mk A1100
     clear A1100
     simp only [Option.some.injEq, Prod.mk.injEq] at H
     obtain ⟨rfl, rfl⟩ := H
     obtain ⟨hnb111, hnc111⟩ := nB NB729_730
     obtain ⟨hnb112, hnc112⟩ := nB NB729_731
     obtain ⟨hnb113, hnc113⟩ := nB NB729_732
     obtain ⟨hnb114, hnc114⟩ := nB NB729_733
     obtain ⟨hcz115_0, hcz115_1, hcz115_2, hfz115_0, hfz115_1, hfz115_2⟩ := bK3 (w := wc) BK729
     obtain ⟨hnb116, hnc116⟩ := nB NB730_731
     obtain ⟨hnb117, hnc117⟩ := nB NB730_732
     obtain ⟨hnb118, hnc118⟩ := nB NB730_733
     obtain ⟨hcz119_0, hcz119_1, hcz119_2, hfz119_0, hfz119_1, hfz119_2⟩ := bK3 (w := wc) BK730
     try go_wp2_with (first | ((with_reducible refine gate_callee (f := 77) rfl ?_); refine gL (some 41) Try.func77 #[.agg #[.int .i64 a0_0, .int .i64 a0_1, .bool a0_2], .agg #[.int .i64 a1_0, .int .i64 a1_1, .bool a1_2]] ?_; (with_reducible refine (impl_slopeOf.calls kj3 a0_0 a0_1 a0_2 a1_0 a1_1 a1_2 t737 true _ A104.out).mono ?_); rintro e w120 ⟨rfl, hb⟩; refine ⟨_, rfl, ?_⟩; replace BK729 := bB BK729 hb; replace BK730 := bB BK730 hb; replace BK731 := bB BK731 hb; replace BK732 := bB BK732 hb; replace BK733 := bB BK733 hb; replace HB := bS HB hb; (try clear hb)))
     replace BK729 := Aside0.mk (blk_drew BK729.out)
     replace BK730 := Aside0.mk (blk_drew BK730.out)
     replace BK731 := Aside0.mk (blk_drew BK731.out)
     replace BK732 := Aside0.mk (blk_drew BK732.out)
     replace BK733 := Aside0.mk (blk_drew BK733.out)
     replace HB := Aside0.mk (below_drew1 HB.out)
     refine start_ (n := 7) (S := fun w' => SP3 w' gb731 (.int .i64 a2_0) (.int .i64 a2_1) (.bool a2_2) (SQ3 w' gb729 (.int .i64 a0_0) (.int .i64 a0_1) (.bool a0_2))) (ds := []) #[false, false, false, false, false, false, false] (by kernel_rfl) rfl rfl (bS3 BK731 (bT3 BK729)) (fun hHeld => ?_)
     generalize w120.drew = w121 at BK729 BK730 BK731 BK732 BK733 HB hHeld ⊢
     refine pure_ (i := 0) (N := some 47) (v := ?_) (a' := ?_) #[true, false, false, false, false, false, false] rfl rfl (by kernel_rfl) (fun _ _ _ h => h) (Or.inl ⟨by rfl, ?_⟩) ?_ ?_
     rotate_left
     ·intro w'
      go_simp
      with_reducible rfl
     rotate_left
     ·simp only [Act.put, List.setIfInBounds_toArray, List.set_cons_zero, List.set_cons_succ, i64_w, i32_w]
      rfl
     refine pure_ (i := 3) (N := some 50) (v := ?_) (a' := ?_) #[true, false, false, true, false, false, false] rfl rfl (by kernel_rfl) (fun _ _ _ h => h) (Or.inl ⟨by rfl, ?_⟩) ?_ ?_
     rotate_left
     ·intro w'
      go_simp
      with_reducible rfl
     rotate_left
     ·simp only [Act.put, List.setIfInBounds_toArray, List.set_cons_zero, List.set_cons_succ, i64_w, i32_w]
      rfl
     refine take_ (i := 1) (N := some 48) (v := ?_) (a' := ?_) #[true, true, false, true, false, false, false] rfl rfl (by kernel_rfl) (fun _ _ _ h => h) (Or.inl ⟨by rfl, ?_⟩) hHeld ?_ ?_
     rotate_left
     ·rintro w' ⟨s0, s1, s2, s3, s4, s5⟩
      go_simp
      with_reducible rfl
     rotate_left
     ·simp only [Act.put, List.setIfInBounds_toArray, List.set_cons_zero, List.set_cons_succ, i64_w, i32_w]
      rfl
     refine take_ (i := 4) (N := some 51) (v := ?_) (a' := ?_) #[true, true, false, true, true, false, false] rfl rfl (by kernel_rfl) (fun _ _ _ h => h) (Or.inl ⟨by rfl, ?_⟩) hHeld ?_ ?_
     rotate_left
     ·rintro w' ⟨s0, s1, s2, s3, s4, s5⟩
      go_simp
      with_reducible rfl
     rotate_left
     ·simp only [Act.put, List.setIfInBounds_toArray, List.set_cons_zero, List.set_cons_succ, i64_w, i32_w]
      rfl
     refine one_ (i := 2) (N := some 49) #[true, true, true, true, true, false, false] rfl rfl (by kernel_rfl) (by decide) (fun K hK => ?_)
     refine gO Try.func67 #[.int .i64 0, .int .i64 a2_0] ?_
     with_reducible refine (impl_FpSub.calls 0 a2_0 t739 _ A106.out).mono ?_
     rintro e w' ⟨rfl, ⟨nd, rfl⟩⟩
     refine ⟨_, rfl, ?_⟩
     refine hK.out _ _ (bS3 BK731 (bT3 BK729)) (fun hHeld => ?_)
     clear hK K
     refine nO (some 49) ?_
     refine one_ (i := 5) (N := some 52) #[true, true, true, true, true, true, false] rfl rfl (by kernel_rfl) (by decide) (fun K hK => ?_)
     refine gO Try.func67 #[.int .i64 t739, .int .i64 a0_0] ?_
     with_reducible refine (impl_FpSub.calls t739 a0_0 t740 _ A107.out).mono ?_
     rintro e w' ⟨rfl, ⟨nd, rfl⟩⟩
     refine ⟨_, rfl, ?_⟩
     refine hK.out _ _ (bS3 BK731 (bT3 BK729)) (fun hHeld => ?_)
     clear hK K
     refine nO (some 52) ?_
     refine pure_ (i := 6) (N := some 10) (v := ?_) (a' := ?_) #[true, true, true, true, true, true, true] rfl rfl (by kernel_rfl) (fun _ _ _ h => h) (Or.inl ⟨by rfl, ?_⟩) ?_ ?_
     rotate_left
     ·intro w'
      go_simp
      with_reducible rfl
     rotate_left
     ·simp only [Act.put, List.setIfInBounds_toArray, List.set_cons_zero, List.set_cons_succ, i64_w, i32_w]
      rfl
     refine done_ (by kernel_rfl) ?_
     try go_wp2
     (try simp only [World.drewN_drewN]); (try (rw [drewN_self w121]; generalize hq_ : World.drewN w121 _ = w121; replace BK729 : Aside0 (w121.heap[gb729]? = some (.cells #[.int .i64 a0_0, .int .i64 a0_1, .bool a0_2] 25 (0, 0))) := ⟨by rw [← hq_]; exact (bP BK729)⟩; replace BK730 : Aside0 (w121.heap[gb730]? = some (.cells #[.int .i64 a1_0, .int .i64 a1_1, .bool a1_2] 25 (0, 0))) := ⟨by rw [← hq_]; exact (bP BK730)⟩; replace BK731 : Aside0 (w121.heap[gb731]? = some (.cells #[.int .i64 a2_0, .int .i64 a2_1, .bool a2_2] 25 (0, 0))) := ⟨by rw [← hq_]; exact (bP BK731)⟩; replace BK732 : Aside0 (w121.heap[gb732]? = some (.cells #[.int .i64 0, .int .i64 0] 31 (0, 0))) := ⟨by rw [← hq_]; exact (bP BK732)⟩; replace BK733 : Aside0 (w121.heap[gb733]? = some (.cells #[.int .i64 1, .int .i64 0] 31 (0, 0))) := ⟨by rw [← hq_]; exact (bP BK733)⟩; replace HB : Aside0 (Below w.heap.size w w121) := ⟨by rw [← hq_]; exact (bZ HB)⟩; clear hq_))
     replace BK729 := Aside0.mk (blk_drew BK729.out)
     replace BK730 := Aside0.mk (blk_drew BK730.out)
     replace BK731 := Aside0.mk (blk_drew BK731.out)
     replace BK732 := Aside0.mk (blk_drew BK732.out)
     replace BK733 := Aside0.mk (blk_drew BK733.out)
     replace HB := Aside0.mk (below_drew1 HB.out)
     refine start_ (n := 11) (S := fun w' => SP3 w' gb729 (.int .i64 a0_0) (.int .i64 a0_1) (.bool a0_2) (SQ3 w' gb731 (.int .i64 a2_0) (.int .i64 a2_1) (.bool a2_2))) (ds := []) #[false, false, false, false, false, false, false, false, false, false, false] (by kernel_rfl) rfl rfl (bS3 BK729 (bT3 BK731)) (fun hHeld => ?_); refine with_tabW impl_PairLine.tab8 impl_PairLine.bits8 (fun HT_ HW_ => ?_)
     generalize w121.drew = w122 at BK729 BK730 BK731 BK732 BK733 HB hHeld ⊢
     refine pI 0 (some 53) HT_.out ?_
     refine pI 3 (some 56) HT_.out ?_
     refine pI 4 (some 57) HT_.out ?_
     refine pI 7 (some 60) HT_.out ?_
     refine tI6 1 (some 54) HT_.out HW_.out hHeld ?_
     refine tI6 8 (some 61) HT_.out HW_.out hHeld ?_
     refine oI 2 (some 55) HT_.out (fun K hK => ?_)
     refine gO Try.func67 #[.int .i64 0, .int .i64 a0_1] ?_
     with_reducible refine (impl_FpSub.calls 0 a0_1 t741 _ A108.out).mono ?_
     rintro e w' ⟨rfl, ⟨nd, rfl⟩⟩
     refine ⟨_, rfl, ?_⟩
     refine hK.out _ _ (bS3 BK729 (bT3 BK731)) (fun hHeld => ?_)
     clear hK K
     refine nO (some 55) ?_
     refine oI 5 (some 58) HT_.out (fun K hK => ?_)
     refine gO Try.func68 #[.int .i64 t737, .int .i64 t740] ?_
     with_reducible refine (impl_FpMul.calls t737 t740 t742 _ A109.out).mono ?_
     rintro e w' ⟨rfl, ⟨nd, rfl⟩⟩
     refine ⟨_, rfl, ?_⟩
     refine hK.out _ _ (bS3 BK729 (bT3 BK731)) (fun hHeld => ?_)
     clear hK K
     refine nO (some 58) ?_
     refine oI 6 (some 59) HT_.out (fun K hK => ?_)
     refine gO Try.func67 #[.int .i64 t741, .int .i64 t742] ?_
     with_reducible refine (impl_FpSub.calls t741 t742 t743 _ A110.out).mono ?_
     rintro e w' ⟨rfl, ⟨nd, rfl⟩⟩
     refine ⟨_, rfl, ?_⟩
     refine hK.out _ _ (bS3 BK729 (bT3 BK731)) (fun hHeld => ?_)
     clear hK K
     refine nO (some 59) ?_
     refine pI 9 (some 62) HT_.out ?_
     refine oI 10 (none) HT_.out (fun K hK => ?_)
     have hs123 : w122.cell? ⟨gb732, 0, none⟩ = some (.int .i64 0) := bc BK732 0
     have hfs123 := blk_frozen BK732.out 0
     have hns123_0 := NB729_732.out
     have hns123_1 := NB730_732.out
     have hns123_2 := NB731_732.out
     have hns123_4 := NB733_732.out
     have hms123_0 := NB732_729.out
     have hms123_1 := NB732_730.out
     have hms123_2 := NB732_731.out
     have hms123_4 := NB732_733.out
     have hs124 : w122.cell? ⟨gb732, 1, none⟩ = some (.int .i64 0) := bc BK732 1
     have hfs124 := blk_frozen BK732.out 1
     have hns124_0 := NB729_732.out
     have hns124_1 := NB730_732.out
     have hns124_2 := NB731_732.out
     have hns124_4 := NB733_732.out
     have hms124_0 := NB732_729.out
     have hms124_1 := NB732_730.out
     have hms124_2 := NB732_731.out
     have hms124_4 := NB732_733.out
     refine skip_ (w1 := ?_) (by rfl) rfl ?_ ?_
     rotate_left
     ·go_simp
      rfl
     refine hK.out _ _ ⟨((cell_far (p := ⟨gb732, _, none⟩) NB729_732.out _).trans (((cell_far (p := ⟨gb732, _, none⟩) NB729_732.out _).trans (hHeld.1)))), ((cell_far (p := ⟨gb732, _, none⟩) NB729_732.out _).trans (((cell_far (p := ⟨gb732, _, none⟩) NB729_732.out _).trans (hHeld.2.1)))), ((cell_far (p := ⟨gb732, _, none⟩) NB729_732.out _).trans (((cell_far (p := ⟨gb732, _, none⟩) NB729_732.out _).trans (hHeld.2.2.1)))), ((cell_far (p := ⟨gb732, _, none⟩) NB731_732.out _).trans (((cell_far (p := ⟨gb732, _, none⟩) NB731_732.out _).trans (hHeld.2.2.2.1)))), ((cell_far (p := ⟨gb732, _, none⟩) NB731_732.out _).trans (((cell_far (p := ⟨gb732, _, none⟩) NB731_732.out _).trans (hHeld.2.2.2.2.1)))), ((cell_far (p := ⟨gb732, _, none⟩) NB731_732.out _).trans (((cell_far (p := ⟨gb732, _, none⟩) NB731_732.out _).trans (hHeld.2.2.2.2.2))))⟩ (fun hHeld => ?_)
     clear hK K
     refine done_ (done_of HT_.out (by kernel_rfl)) ?_
     try go_wp2
     refine rC gb732 31 #[.int .i64 t743, .int .i64 a2_1] (bU BK732) Try.underlying31 ?_
     exact ⟨rR, bZ HB⟩
    ·replace c105 := Bool.eq_false_iff.mpr c105
     subst c105
     rw [if_neg (show ¬ (false = true) by decide)] at H
     simp only [Option.some.injEq, Prod.mk.injEq] at H
     obtain ⟨rfl, rfl⟩ := H
     obtain ⟨hnb125, hnc125⟩ := nB NB729_730
     obtain ⟨hnb126, hnc126⟩ := nB NB729_731
     obtain ⟨hnb127, hnc127⟩ := nB NB729_732
     obtain ⟨hnb128, hnc128⟩ := nB NB729_733
     obtain ⟨hcz129_0, hcz129_1, hcz129_2, hfz129_0, hfz129_1, hfz129_2⟩ := bK3 (w := wc) BK729
     obtain ⟨hnb130, hnc130⟩ := nB NB730_731
     obtain ⟨hnb131, hnc131⟩ := nB NB730_732
     obtain ⟨hnb132, hnc132⟩ := nB NB730_733
     obtain ⟨hcz133_0, hcz133_1, hcz133_2, hfz133_0, hfz133_1, hfz133_2⟩ := bK3 (w := wc) BK730
     go_wp2_with (first | ((with_reducible refine gate_callee (f := 77) rfl ?_); refine gL (some 41) Try.func77 #[.agg #[.int .i64 a0_0, .int .i64 a0_1, .bool a0_2], .agg #[.int .i64 a1_0, .int .i64 a1_1, .bool a1_2]] ?_; (with_reducible refine (impl_slopeOf.calls kj3 a0_0 a0_1 a0_2 a1_0 a1_1 a1_2 t737 false _ A104.out).mono ?_); rintro e w134 ⟨rfl, hb⟩; refine ⟨_, rfl, ?_⟩; replace BK729 := bB BK729 hb; replace BK730 := bB BK730 hb; replace BK731 := bB BK731 hb; replace BK732 := bB BK732 hb; replace BK733 := bB BK733 hb; replace HB := bS HB hb; (try clear hb); obtain ⟨hnb135, hnc135⟩ := nB NB733_731; obtain ⟨hnb136, hnc136⟩ := nB NB733_732; obtain ⟨hcz137_0, hcz137_1, hfz137_0, hfz137_1⟩ := bK2 (w := w134) BK733; obtain ⟨hnb138, hnc138⟩ := nB NB732_731; obtain ⟨hcz139_0, hcz139_1, hfz139_0, hfz139_1⟩ := bK2 (w := w134) BK732))
     refine rC gb732 31 #[.int .i64 1, .int .i64 0] (bU BK732) Try.underlying31 ?_
     exact ⟨rR, bZ HB⟩
/-! ### impl_add: function 66 -/
def impl_add.f (k : Nat) (a0_0 : Int) (a0_1 : Int) (a0_2 : Bool) (a1_0 : Int) (a1_1 : Int) (a1_2 : Bool) : Option (Int × Int × Bool) := if a0_2 = true then (some (a1_0, a1_1, a1_2)) else (if a1_2 = true then (some (a0_0, a0_1, a0_2)) else ((impl_slopeOf.f k a0_0 a0_1 a0_2 a1_0 a1_1 a1_2).bind fun bt136 => (if bt136.2 = true then ((impl_FpMul.f bt136.1 bt136.1).bind fun t138 => ((impl_FpSub.f t138 a0_0).bind fun t139 => ((impl_FpSub.f t139 a1_0).bind fun t140 => ((impl_FpSub.f a0_0 t140).bind fun t141 => ((impl_FpMul.f bt136.1 t141).bind fun t142 => ((impl_FpSub.f t142 a0_1).bind fun t143 => (some (t140, t143, false)))))))) else (some (0, 0, true)))))
theorem impl_add.mono : ∀ a0 a1 a2 a3 a4 a5 k, LeO (impl_add.f k a0 a1 a2 a3 a4 a5) (impl_add.f (k + 1) a0 a1 a2 a3 a4 a5) := by
 intro a0 a1 a2 a3 a4 a5 k
 unfold impl_add.f
 repeat' first
   | (with_reducible exact impl_slopeOf.mono _ _ _ _ _ _ _)
   | (with_reducible exact LeO.refl _)
   | (with_reducible exact LeO.none _)
   | (with_reducible refine LeO.ite ?_ ?_)
   | (with_reducible refine LeO.bind ?_ (fun _ => ?_))
   | exact impl_slopeOf.mono _ _ _ _ _ _ _
   | exact LeO.none _
   | refine LeO.ite ?_ ?_
   | refine LeO.bind ?_ (fun _ => ?_)
def impl_add.T8 : Bool × List (List Nat × List Nat) := (true, [([], []), ([], []), ([0, 1], [0, 1]), ([], []), ([3], [3]), ([2, 4, 2], [2, 4]), ([], []), ([6], [6]), ([5, 7, 5], [5, 7]), ([8, 8, 0, 1, 2, 3, 4, 5, 6, 7, 8], [8])])
def impl_add.B8 : List Nat := [0, 0, 3, 0, 8, 31, 0, 64, 255, 511]
theorem impl_add.tab8 : rtab .any (opsOf Try.f66 8) = impl_add.T8 := by kernel_rfl
theorem impl_add.bits8 : waitsOk impl_add.T8.2 impl_add.B8 = true := by kernel_rfl
def impl_add.T9 : Bool × List (List Nat × List Nat) := (true, [([], []), ([], []), ([], []), ([2], [2]), ([], []), ([3, 4], [3, 4]), ([1, 5, 5], [1, 5]), ([], []), ([7], [7]), ([6, 8, 6], [6, 8]), ([0, 9], [0, 9]), ([10, 9, 0, 1, 2, 3, 4, 5, 6, 7, 8, 9, 10], [10])])
def impl_add.B9 : List Nat := [0, 0, 0, 4, 0, 28, 62, 0, 128, 510, 1023, 2047]
theorem impl_add.tab9 : rtab .any (opsOf Try.f66 9) = impl_add.T9 := by kernel_rfl
theorem impl_add.bits9 : waitsOk impl_add.T9.2 impl_add.B9 = true := by kernel_rfl
set_option maxHeartbeats 8000000 in
set_option maxRecDepth 100000 in
theorem impl_add.calls (k : Nat) (a0_0 : Int) (a0_1 : Int) (a0_2 : Bool) (a1_0 : Int) (a1_1 : Int) (a1_2 : Bool) (r1 : Int) (r2 : Int) (r3 : Bool) (w : World) (h : impl_add.f k a0_0 a0_1 a0_2 a1_0 a1_1 a1_2 = some (r1, r2, r3)) :
  Calls Try.prog 66 #[.agg #[.int .i64 a0_0, .int .i64 a0_1, .bool a0_2], .agg #[.int .i64 a1_0, .int .i64 a1_1, .bool a1_2]] w fun e w' => e = .returned (.agg #[.int .i64 r1, .int .i64 r2, .bool r3]) ∧ Below w.heap.size w w' := by
 have hu25 := Try.underlying25
 have HB := Aside0.mk (Below.refl w.heap.size w)
 have H : (if a0_2 = true then (some (a1_0, a1_1, a1_2)) else (if a1_2 = true then (some (a0_0, a0_1, a0_2)) else ((impl_slopeOf.f k a0_0 a0_1 a0_2 a1_0 a1_1 a1_2).bind fun bt136 => (if bt136.2 = true then ((impl_FpMul.f bt136.1 bt136.1).bind fun t138 => ((impl_FpSub.f t138 a0_0).bind fun t139 => ((impl_FpSub.f t139 a1_0).bind fun t140 => ((impl_FpSub.f a0_0 t140).bind fun t141 => ((impl_FpMul.f bt136.1 t141).bind fun t142 => ((impl_FpSub.f t142 a0_1).bind fun t143 => (some (t140, t143, false)))))))) else (some (0, 0, true)))))) = some (r1, r2, r3) := h
 clear h
 by_cases c3 : a0_2 = true
 ·subst c3
  rw [if_pos rfl] at H
  simp only [Option.some.injEq, Prod.mk.injEq] at H
  obtain ⟨rfl, rfl, rfl⟩ := H
  go_enter Try.func66, Try.ntmps66
  go_wp2_with (first | ((with_reducible refine gate_dst (N := 2) rfl ?_); refine bE 2 #[.int .i64 a0_0, .int .i64 a0_1, .bool true] 25 ?_; intro gb133 hg w4 hbox hb; have BK133 := Aside0.mk (hbox); have GW133 := bG HB hg; have GE133 := bG HB hg; replace HB := bS HB hb; clear hb hbox hg) | ((with_reducible refine gate_dst (N := 3) rfl ?_); refine bE 3 #[.int .i64 a1_0, .int .i64 a1_1, .bool a1_2] 25 ?_; intro gb134 hg w5 hbox hb; have BK134 := Aside0.mk (hbox); have GW134 := bG HB hg; have GE134 := bG HB hg; replace HB := bS HB hb; have NB133_134 := bL BK133 hg; have NB134_133 := bR BK133 hg; replace BK133 := bB BK133 hb; clear hb hbox hg) | ((with_reducible refine gate_dst (N := 4) rfl ?_); refine bE 4 #[.int .i64 0, .int .i64 0, .bool false] 25 ?_; intro gb135 hg w6 hbox hb; have BK135 := Aside0.mk (hbox); have GW135 := bG HB hg; have GE135 := bG HB hg; replace HB := bS HB hb; have NB133_135 := bL BK133 hg; have NB135_133 := bR BK133 hg; replace BK133 := bB BK133 hb; have NB134_135 := bL BK134 hg; have NB135_134 := bR BK134 hg; replace BK134 := bB BK134 hb; clear hb hbox hg; obtain ⟨hnb7, hnc7⟩ := nB NB133_134; obtain ⟨hnb8, hnc8⟩ := nB NB133_135; obtain ⟨hcz9_0, hcz9_1, hcz9_2, hfz9_0, hfz9_1, hfz9_2⟩ := bK3 (w := w6) BK133; obtain ⟨hnb10, hnc10⟩ := nB NB134_135; obtain ⟨hcz11_0, hcz11_1, hcz11_2, hfz11_0, hfz11_1, hfz11_2⟩ := bK3 (w := w6) BK134; obtain ⟨hcz12_0, hcz12_1, hcz12_2, hfz12_0, hfz12_1, hfz12_2⟩ := bK3 (w := w6) BK135))
  refine rC gb135 25 #[.int .i64 a1_0, .int .i64 a1_1, .bool a1_2] (bU BK135) Try.underlying25 ?_
  exact ⟨rR, bZ HB⟩
 ·replace c3 := Bool.eq_false_iff.mpr c3
  subst c3
  rw [if_neg (show ¬ (false = true) by decide)] at H
  by_cases c13 : a1_2 = true
  ·subst c13
   rw [if_pos rfl] at H
   simp only [Option.some.injEq, Prod.mk.injEq] at H
   obtain ⟨rfl, rfl, rfl⟩ := H
   go_enter Try.func66, Try.ntmps66
   go_wp2_with (first | ((with_reducible refine gate_dst (N := 2) rfl ?_); refine bE 2 #[.int .i64 a0_0, .int .i64 a0_1, .bool false] 25 ?_; intro gb133 hg w14 hbox hb; have BK133 := Aside0.mk (hbox); have GW133 := bG HB hg; have GE133 := bG HB hg; replace HB := bS HB hb; clear hb hbox hg) | ((with_reducible refine gate_dst (N := 3) rfl ?_); refine bE 3 #[.int .i64 a1_0, .int .i64 a1_1, .bool true] 25 ?_; intro gb134 hg w15 hbox hb; have BK134 := Aside0.mk (hbox); have GW134 := bG HB hg; have GE134 := bG HB hg; replace HB := bS HB hb; have NB133_134 := bL BK133 hg; have NB134_133 := bR BK133 hg; replace BK133 := bB BK133 hb; clear hb hbox hg) | ((with_reducible refine gate_dst (N := 4) rfl ?_); refine bE 4 #[.int .i64 0, .int .i64 0, .bool false] 25 ?_; intro gb135 hg w16 hbox hb; have BK135 := Aside0.mk (hbox); have GW135 := bG HB hg; have GE135 := bG HB hg; replace HB := bS HB hb; have NB133_135 := bL BK133 hg; have NB135_133 := bR BK133 hg; replace BK133 := bB BK133 hb; have NB134_135 := bL BK134 hg; have NB135_134 := bR BK134 hg; replace BK134 := bB BK134 hb; clear hb hbox hg; obtain ⟨hnb17, hnc17⟩ := nB NB133_134; obtain ⟨hnb18, hnc18⟩ := nB NB133_135; obtain ⟨hcz19_0, hcz19_1, hcz19_2, hfz19_0, hfz19_1, hfz19_2⟩ := bK3 (w := w16) BK133; obtain ⟨hnb20, hnc20⟩ := nB NB134_135; obtain ⟨hcz21_0, hcz21_1, hcz21_2, hfz21_0, hfz21_1, hfz21_2⟩ := bK3 (w := w16) BK134; obtain ⟨hcz22_0, hcz22_1, hcz22_2, hfz22_0, hfz22_1, hfz22_2⟩ := bK3 (w := w16) BK135))
   refine rC gb135 25 #[.int .i64 a0_0, .int .i64 a0_1, .bool false] (bU BK135) Try.underlying25 ?_
   exact ⟨rR, bZ HB⟩
  ·replace c13 := Bool.eq_false_iff.mpr c13
   subst c13
   rw [if_neg (show ¬ (false = true) by decide)] at H
   replace H := Option.bind_eq_some_iff.mp H
   obtain ⟨⟨t136, t137⟩, A230, H⟩ := H
   have A23 := Aside0.mk A230
   clear A230
   by_cases c24 : t137 = true
   ·subst c24
    rw [if_pos rfl] at H
    replace H := Option.bind_eq_some_iff.mp H
    obtain ⟨t138, A250, H⟩ := H
    have A25 := Aside0.mk A250
    clear A250
    replace H := Option.bind_eq_some_iff.mp H
    obtain ⟨t139, A260, H⟩ := H
    have A26 := Aside0.mk A260
    clear A260
    replace H := Option.bind_eq_some_iff.mp H
    obtain ⟨t140, A270, H⟩ := H
    have A27 := Aside0.mk A270
    clear A270
    replace H := Option.bind_eq_some_iff.mp H
    obtain ⟨t141, A280, H⟩ := H
    have A28 := Aside0.mk A280
    clear A280
    replace H := Option.bind_eq_some_iff.mp H
    obtain ⟨t142, A290, H⟩ := H
    have A29 := Aside0.mk A290
    clear A290
    replace H := Option.bind_eq_some_iff.mp H
    obtain ⟨t143, A300, H⟩ := H
    have A30 := Aside0.mk A300
    clear A300
    simp only [Option.some.injEq, Prod.mk.injEq] at H
    obtain ⟨rfl, rfl, rfl⟩ := H
    go_enter Try.func66, Try.ntmps66
    try go_wp2_with (first | ((with_reducible refine gate_dst (N := 2) rfl ?_); refine bE 2 #[.int .i64 a0_0, .int .i64 a0_1, .bool false] 25 ?_; intro gb133 hg w31 hbox hb; have BK133 := Aside0.mk (hbox); have GW133 := bG HB hg; have GE133 := bG HB hg; replace HB := bS HB hb; clear hb hbox hg) | ((with_reducible refine gate_dst (N := 3) rfl ?_); refine bE 3 #[.int .i64 a1_0, .int .i64 a1_1, .bool false] 25 ?_; intro gb134 hg w32 hbox hb; have BK134 := Aside0.mk (hbox); have GW134 := bG HB hg; have GE134 := bG HB hg; replace HB := bS HB hb; have NB133_134 := bL BK133 hg; have NB134_133 := bR BK133 hg; replace BK133 := bB BK133 hb; clear hb hbox hg) | ((with_reducible refine gate_dst (N := 4) rfl ?_); refine bE 4 #[.int .i64 0, .int .i64 0, .bool false] 25 ?_; intro gb135 hg w33 hbox hb; have BK135 := Aside0.mk (hbox); have GW135 := bG HB hg; have GE135 := bG HB hg; replace HB := bS HB hb; have NB133_135 := bL BK133 hg; have NB135_133 := bR BK133 hg; replace BK133 := bB BK133 hb; have NB134_135 := bL BK134 hg; have NB135_134 := bR BK134 hg; replace BK134 := bB BK134 hb; clear hb hbox hg; obtain ⟨hnb34, hnc34⟩ := nB NB133_134; obtain ⟨hnb35, hnc35⟩ := nB NB133_135; obtain ⟨hcz36_0, hcz36_1, hcz36_2, hfz36_0, hfz36_1, hfz36_2⟩ := bK3 (w := w33) BK133; obtain ⟨hnb37, hnc37⟩ := nB NB134_135; obtain ⟨hcz38_0, hcz38_1, hcz38_2, hfz38_0, hfz38_1, hfz38_2⟩ := bK3 (w := w33) BK134) | ((with_reducible refine gate_callee (f := 77) rfl ?_); refine gL (some 17) Try.func77 #[.agg #[.int .i64 a0_0, .int .i64 a0_1, .bool false], .agg #[.int .i64 a1_0, .int .i64 a1_1, .bool false]] ?_; (with_reducible refine (impl_slopeOf.calls k a0_0 a0_1 false a1_0 a1_1 false t136 true _ A23.out).mono ?_); rintro e w39 ⟨rfl, hb⟩; refine ⟨_, rfl, ?_⟩; replace BK133 := bB BK133 hb; replace BK134 := bB BK134 hb; replace BK135 := bB BK135 hb; replace HB := bS HB hb; (try clear hb)))
    replace BK133 := Aside0.mk (blk_drew BK133.out)
    replace BK134 := Aside0.mk (blk_drew BK134.out)
    replace BK135 := Aside0.mk (blk_drew BK135.out)
    replace HB := Aside0.mk (below_drew1 HB.out)
    refine start_ (n := 10) (S := fun w' => SP3 w' gb133 (.int .i64 a0_0) (.int .i64 a0_1) (.bool false) (SQ3 w' gb134 (.int .i64 a1_0) (.int .i64 a1_1) (.bool false))) (ds := []) #[false, false, false, false, false, false, false, false, false, false] (by kernel_rfl) rfl rfl (bS3 BK133 (bT3 BK134)) (fun hHeld => ?_); refine with_tabW impl_add.tab8 impl_add.bits8 (fun HT_ HW_ => ?_)
    generalize w39.drew = w40 at BK133 BK134 BK135 HB hHeld ⊢
    refine pI 0 (some 23) HT_.out ?_
    refine pI 1 (some 24) HT_.out ?_
    refine pI 3 (some 26) HT_.out ?_
    refine pI 6 (some 29) HT_.out ?_
    refine tI6 4 (some 27) HT_.out HW_.out hHeld ?_
    refine tI6 7 (some 30) HT_.out HW_.out hHeld ?_
    refine oI 2 (some 25) HT_.out (fun K hK => ?_)
    refine gO Try.func68 #[.int .i64 t136, .int .i64 t136] ?_
    with_reducible refine (impl_FpMul.calls t136 t136 t138 _ A25.out).mono ?_
    rintro e w' ⟨rfl, ⟨nd, rfl⟩⟩
    refine ⟨_, rfl, ?_⟩
    refine hK.out _ _ (bS3 BK133 (bT3 BK134)) (fun hHeld => ?_)
    clear hK K
    refine nO (some 25) ?_
    refine oI 5 (some 28) HT_.out (fun K hK => ?_)
    refine gO Try.func67 #[.int .i64 t138, .int .i64 a0_0] ?_
    with_reducible refine (impl_FpSub.calls t138 a0_0 t139 _ A26.out).mono ?_
    rintro e w' ⟨rfl, ⟨nd, rfl⟩⟩
    refine ⟨_, rfl, ?_⟩
    refine hK.out _ _ (bS3 BK133 (bT3 BK134)) (fun hHeld => ?_)
    clear hK K
    refine nO (some 28) ?_
    refine oI 8 (some 31) HT_.out (fun K hK => ?_)
    refine gO Try.func67 #[.int .i64 t139, .int .i64 a1_0] ?_
    with_reducible refine (impl_FpSub.calls t139 a1_0 t140 _ A27.out).mono ?_
    rintro e w' ⟨rfl, ⟨nd, rfl⟩⟩
    refine ⟨_, rfl, ?_⟩
    refine hK.out _ _ (bS3 BK133 (bT3 BK134)) (fun hHeld => ?_)
    clear hK K
    refine nO (some 31) ?_
    refine pI 9 (some 7) HT_.out ?_
    refine done_ (done_of HT_.out (by kernel_rfl)) ?_
    try go_wp2
    (try simp only [World.drewN_drewN]); (try (rw [drewN_self w40]; generalize hq_ : World.drewN w40 _ = w40; replace BK133 : Aside0 (w40.heap[gb133]? = some (.cells #[.int .i64 a0_0, .int .i64 a0_1, .bool false] 25 (0, 0))) := ⟨by rw [← hq_]; exact (bP BK133)⟩; replace BK134 : Aside0 (w40.heap[gb134]? = some (.cells #[.int .i64 a1_0, .int .i64 a1_1, .bool false] 25 (0, 0))) := ⟨by rw [← hq_]; exact (bP BK134)⟩; replace BK135 : Aside0 (w40.heap[gb135]? = some (.cells #[.int .i64 0, .int .i64 0, .bool false] 25 (0, 0))) := ⟨by rw [← hq_]; exact (bP BK135)⟩; replace HB : Aside0 (Below w.heap.size w w40) := ⟨by rw [← hq_]; exact (bZ HB)⟩; clear hq_))
    replace BK133 := Aside0.mk (blk_drew BK133.out)
    replace BK134 := Aside0.mk (blk_drew BK134.out)
    replace BK135 := Aside0.mk (blk_drew BK135.out)
    replace HB := Aside0.mk (below_drew1 HB.out)
    refine start_ (n := 12) (S := fun w' => SQ3 w' gb133 (.int .i64 a0_0) (.int .i64 a0_1) (.bool false)) (ds := []) #[false, false, false, false, false, false, false, false, false, false, false, false] (by kernel_rfl) rfl rfl (bT3 BK133) (fun hHeld => ?_); refine with_tabW impl_add.tab9 impl_add.bits9 (fun HT_ HW_ => ?_)
    generalize w40.drew = w41 at BK133 BK134 BK135 HB hHeld ⊢
    refine pI 0 (some 32) HT_.out ?_
    refine pI 1 (some 33) HT_.out ?_
    refine pI 2 (some 34) HT_.out ?_
    refine pI 4 (some 36) HT_.out ?_
    refine pI 7 (some 39) HT_.out ?_
    refine tI3 3 (some 35) HT_.out HW_.out hHeld ?_
    refine tI3 8 (some 40) HT_.out HW_.out hHeld ?_
    refine oI 5 (some 37) HT_.out (fun K hK => ?_)
    refine gO Try.func67 #[.int .i64 a0_0, .int .i64 t140] ?_
    with_reducible refine (impl_FpSub.calls a0_0 t140 t141 _ A28.out).mono ?_
    rintro e w' ⟨rfl, ⟨nd, rfl⟩⟩
    refine ⟨_, rfl, ?_⟩
    refine hK.out _ _ (bT3 BK133) (fun hHeld => ?_)
    clear hK K
    refine nO (some 37) ?_
    refine oI 6 (some 38) HT_.out (fun K hK => ?_)
    refine gO Try.func68 #[.int .i64 t136, .int .i64 t141] ?_
    with_reducible refine (impl_FpMul.calls t136 t141 t142 _ A29.out).mono ?_
    rintro e w' ⟨rfl, ⟨nd, rfl⟩⟩
    refine ⟨_, rfl, ?_⟩
    refine hK.out _ _ (bT3 BK133) (fun hHeld => ?_)
    clear hK K
    refine nO (some 38) ?_
    refine oI 9 (some 41) HT_.out (fun K hK => ?_)
    refine gO Try.func67 #[.int .i64 t142, .int .i64 a0_1] ?_
    with_reducible refine (impl_FpSub.calls t142 a0_1 t143 _ A30.out).mono ?_
    rintro e w' ⟨rfl, ⟨nd, rfl⟩⟩
    refine ⟨_, rfl, ?_⟩
    refine hK.out _ _ (bT3 BK133) (fun hHeld => ?_)
    clear hK K
    refine nO (some 41) ?_
    refine pI 10 (some 42) HT_.out ?_
    refine oI 11 (none) HT_.out (fun K hK => ?_)
    have hs42 : w41.cell? ⟨gb135, 0, none⟩ = some (.int .i64 0) := bc BK135 0
    have hfs42 := blk_frozen BK135.out 0
    have hns42_0 := NB133_135.out
    have hns42_1 := NB134_135.out
    have hms42_0 := NB135_133.out
    have hms42_1 := NB135_134.out
    have hs43 : w41.cell? ⟨gb135, 1, none⟩ = some (.int .i64 0) := bc BK135 1
    have hfs43 := blk_frozen BK135.out 1
    have hns43_0 := NB133_135.out
    have hns43_1 := NB134_135.out
    have hms43_0 := NB135_133.out
    have hms43_1 := NB135_134.out
    have hs44 : w41.cell? ⟨gb135, 2, none⟩ = some (.bool false) := bc BK135 2
    have hfs44 := blk_frozen BK135.out 2
    have hns44_0 := NB133_135.out
    have hns44_1 := NB134_135.out
    have hms44_0 := NB135_133.out
    have hms44_1 := NB135_134.out
    refine skip_ (w1 := ?_) (by rfl) rfl ?_ ?_
    rotate_left
    ·go_simp
     rfl
    refine hK.out _ _ ⟨((cell_far (p := ⟨gb135, _, none⟩) NB133_135.out _).trans (((cell_far (p := ⟨gb135, _, none⟩) NB133_135.out _).trans (((cell_far (p := ⟨gb135, _, none⟩) NB133_135.out _).trans (hHeld.1)))))), ((cell_far (p := ⟨gb135, _, none⟩) NB133_135.out _).trans (((cell_far (p := ⟨gb135, _, none⟩) NB133_135.out _).trans (((cell_far (p := ⟨gb135, _, none⟩) NB133_135.out _).trans (hHeld.2.1)))))), ((cell_far (p := ⟨gb135, _, none⟩) NB133_135.out _).trans (((cell_far (p := ⟨gb135, _, none⟩) NB133_135.out _).trans (((cell_far (p := ⟨gb135, _, none⟩) NB133_135.out _).trans (hHeld.2.2))))))⟩ (fun hHeld => ?_)
    clear hK K
    refine done_ (done_of HT_.out (by kernel_rfl)) ?_
    try go_wp2
    refine rC gb135 25 #[.int .i64 t140, .int .i64 t143, .bool false] (bU BK135) Try.underlying25 ?_
    exact ⟨rR, bZ HB⟩
   ·replace c24 := Bool.eq_false_iff.mpr c24
    subst c24
    rw [if_neg (show ¬ (false = true) by decide)] at H
    simp only [Option.some.injEq, Prod.mk.injEq] at H
    obtain ⟨rfl, rfl, rfl⟩ := H
    go_enter Try.func66, Try.ntmps66
    go_wp2_with (first | ((with_reducible refine gate_dst (N := 2) rfl ?_); refine bE 2 #[.int .i64 a0_0, .int .i64 a0_1, .bool false] 25 ?_; intro gb133 hg w45 hbox hb; have BK133 := Aside0.mk (hbox); have GW133 := bG HB hg; have GE133 := bG HB hg; replace HB := bS HB hb; clear hb hbox hg) | ((with_reducible refine gate_dst (N := 3) rfl ?_); refine bE 3 #[.int .i64 a1_0, .int .i64 a1_1, .bool false] 25 ?_; intro gb134 hg w46 hbox hb; have BK134 := Aside0.mk (hbox); have GW134 := bG HB hg; have GE134 := bG HB hg; replace HB := bS HB hb; have NB133_134 := bL BK133 hg; have NB134_133 := bR BK133 hg; replace BK133 := bB BK133 hb; clear hb hbox hg) | ((with_reducible refine gate_dst (N := 4) rfl ?_); refine bE 4 #[.int .i64 0, .int .i64 0, .bool false] 25 ?_; intro gb135 hg w47 hbox hb; have BK135 := Aside0.mk (hbox); have GW135 := bG HB hg; have GE135 := bG HB hg; replace HB := bS HB hb; have NB133_135 := bL BK133 hg; have NB135_133 := bR BK133 hg; replace BK133 := bB BK133 hb; have NB134_135 := bL BK134 hg; have NB135_134 := bR BK134 hg; replace BK134 := bB BK134 hb; clear hb hbox hg; obtain ⟨hnb48, hnc48⟩ := nB NB133_134; obtain ⟨hnb49, hnc49⟩ := nB NB133_135; obtain ⟨hcz50_0, hcz50_1, hcz50_2, hfz50_0, hfz50_1, hfz50_2⟩ := bK3 (w := w47) BK133; obtain ⟨hnb51, hnc51⟩ := nB NB134_135; obtain ⟨hcz52_0, hcz52_1, hcz52_2, hfz52_0, hfz52_1, hfz52_2⟩ := bK3 (w := w47) BK134) | ((with_reducible refine gate_callee (f := 77) rfl ?_); refine gL (some 17) Try.func77 #[.agg #[.int .i64 a0_0, .int .i64 a0_1, .bool false], .agg #[.int .i64 a1_0, .int .i64 a1_1, .bool false]] ?_; (with_reducible refine (impl_slopeOf.calls k a0_0 a0_1 false a1_0 a1_1 false t136 false _ A23.out).mono ?_); rintro e w53 ⟨rfl, hb⟩; refine ⟨_, rfl, ?_⟩; replace BK133 := bB BK133 hb; replace BK134 := bB BK134 hb; replace BK135 := bB BK135 hb; replace HB := bS HB hb; (try clear hb); obtain ⟨hcz54_0, hcz54_1, hcz54_2, hfz54_0, hfz54_1, hfz54_2⟩ := bK3 (w := w53) BK135))
    refine rC gb135 25 #[.int .i64 0, .int .i64 0, .bool true] (bU BK135) Try.underlying25 ?_
    exact ⟨rR, bZ HB⟩
/-! ### impl_PointAdd: function 19 -/
def impl_PointAdd.f (k : Nat) (a0_0 : Int) (a0_1 : Int) (a0_2 : Bool) (a1_0 : Int) (a1_1 : Int) (a1_2 : Bool) : Option (Int × Int × Bool) := (impl_PointOk.f a0_0 a0_1 a0_2).bind fun t161 => (if t161 = true then ((impl_PointOk.f a1_0 a1_1 a1_2).bind fun t162 => (if t162 = true then ((impl_add.f k a0_0 a0_1 a0_2 a1_0 a1_1 a1_2).bind fun bt163 => (some (bt163.1, bt163.2.1, bt163.2.2))) else (some (0, 0, true)))) else (some (0, 0, true)))
theorem impl_PointAdd.mono : ∀ a0 a1 a2 a3 a4 a5 k, LeO (impl_PointAdd.f k a0 a1 a2 a3 a4 a5) (impl_PointAdd.f (k + 1) a0 a1 a2 a3 a4 a5) := by
 intro a0 a1 a2 a3 a4 a5 k
 unfold impl_PointAdd.f
 repeat' first
   | (with_reducible exact impl_add.mono _ _ _ _ _ _ _)
   | (with_reducible exact LeO.refl _)
   | (with_reducible exact LeO.none _)
   | (with_reducible refine LeO.ite ?_ ?_)
   | (with_reducible refine LeO.bind ?_ (fun _ => ?_))
   | exact impl_add.mono _ _ _ _ _ _ _
   | exact LeO.none _
   | refine LeO.ite ?_ ?_
   | refine LeO.bind ?_ (fun _ => ?_)
set_option maxHeartbeats 8000000 in
set_option maxRecDepth 100000 in
theorem impl_PointAdd.calls (k : Nat) (a0_0 : Int) (a0_1 : Int) (a0_2 : Bool) (a1_0 : Int) (a1_1 : Int) (a1_2 : Bool) (r1 : Int) (r2 : Int) (r3 : Bool) (w : World) (h : impl_PointAdd.f k a0_0 a0_1 a0_2 a1_0 a1_1 a1_2 = some (r1, r2, r3)) :
  Calls Try.prog 19 #[.agg #[.int .i64 a0_0, .int .i64 a0_1, .bool a0_2], .agg #[.int .i64 a1_0, .int .i64 a1_1, .bool a1_2]] w fun e w' => e = .returned (.agg #[.int .i64 r1, .int .i64 r2, .bool r3]) ∧ Below w.heap.size w w' := by
 have hu25 := Try.underlying25
 have HB := Aside0.mk (Below.refl w.heap.size w)
 have H : ((impl_PointOk.f a0_0 a0_1 a0_2).bind fun t161 => (if t161 = true then ((impl_PointOk.f a1_0 a1_1 a1_2).bind fun t162 => (if t162 = true then ((impl_add.f k a0_0 a0_1 a0_2 a1_0 a1_1 a1_2).bind fun bt163 => (some (bt163.1, bt163.2.1, bt163.2.2))) else (some (0, 0, true)))) else (some (0, 0, true)))) = some (r1, r2, r3) := h
 clear h
 replace H := Option.bind_eq_some_iff.mp H
 obtain ⟨t161, A30, H⟩ := H
 have A3 := Aside0.mk A30
 clear A30
 by_cases c4 : t161 = true
 ·subst c4
  rw [if_pos rfl] at H
  replace H := Option.bind_eq_some_iff.mp H
  obtain ⟨t162, A50, H⟩ := H
  have A5 := Aside0.mk A50
  clear A50
  by_cases c6 : t162 = true
  ·subst c6
   rw [if_pos rfl] at H
   replace H := Option.bind_eq_some_iff.mp H
   obtain ⟨⟨t163, t164, t165⟩, A70, H⟩ := H
   have A7 := Aside0.mk A70
   clear A70
   simp only [Option.some.injEq, Prod.mk.injEq] at H
   obtain ⟨rfl, rfl, rfl⟩ := H
   go_enter Try.func19, Try.ntmps19
   go_wp2_with (first | ((with_reducible refine gate_dst (N := 2) rfl ?_); refine bE 2 #[.int .i64 a0_0, .int .i64 a0_1, .bool a0_2] 25 ?_; intro gb158 hg w8 hbox hb; have BK158 := Aside0.mk (hbox); have GW158 := bG HB hg; have GE158 := bG HB hg; replace HB := bS HB hb; clear hb hbox hg) | ((with_reducible refine gate_dst (N := 3) rfl ?_); refine bE 3 #[.int .i64 a1_0, .int .i64 a1_1, .bool a1_2] 25 ?_; intro gb159 hg w9 hbox hb; have BK159 := Aside0.mk (hbox); have GW159 := bG HB hg; have GE159 := bG HB hg; replace HB := bS HB hb; have NB158_159 := bL BK158 hg; have NB159_158 := bR BK158 hg; replace BK158 := bB BK158 hb; clear hb hbox hg) | ((with_reducible refine gate_dst (N := 4) rfl ?_); refine bE 4 #[.int .i64 0, .int .i64 0, .bool false] 25 ?_; intro gb160 hg w10 hbox hb; have BK160 := Aside0.mk (hbox); have GW160 := bG HB hg; have GE160 := bG HB hg; replace HB := bS HB hb; have NB158_160 := bL BK158 hg; have NB160_158 := bR BK158 hg; replace BK158 := bB BK158 hb; have NB159_160 := bL BK159 hg; have NB160_159 := bR BK159 hg; replace BK159 := bB BK159 hb; clear hb hbox hg; obtain ⟨hnb11, hnc11⟩ := nB NB158_159; obtain ⟨hnb12, hnc12⟩ := nB NB158_160; obtain ⟨hcz13_0, hcz13_1, hcz13_2, hfz13_0, hfz13_1, hfz13_2⟩ := bK3 (w := w10) BK158) | ((with_reducible refine gate_callee (f := 31) rfl ?_); refine gL (some 6) Try.func31 #[.agg #[.int .i64 a0_0, .int .i64 a0_1, .bool a0_2]] ?_; (with_reducible refine (impl_PointOk.calls a0_0 a0_1 a0_2 true _ A3.out).mono ?_); rintro e w14 ⟨rfl, hb⟩; refine ⟨_, rfl, ?_⟩; replace BK158 := bB BK158 hb; replace BK159 := bB BK159 hb; replace BK160 := bB BK160 hb; replace HB := bS HB hb; (try clear hb); obtain ⟨hnb15, hnc15⟩ := nB NB159_160; obtain ⟨hcz16_0, hcz16_1, hcz16_2, hfz16_0, hfz16_1, hfz16_2⟩ := bK3 (w := w14) BK159) | (go_at_call 31; (with_reducible refine (impl_PointOk.calls a1_0 a1_1 a1_2 true _ A5.out).mono ?_); rintro e w17 ⟨rfl, hb⟩; replace BK158 := bB BK158 hb; replace BK159 := bB BK159 hb; replace BK160 := bB BK160 hb; replace HB := bS HB hb; (try clear hb); obtain ⟨hcz18_0, hcz18_1, hcz18_2, hfz18_0, hfz18_1, hfz18_2⟩ := bK3 (w := w17) BK158; obtain ⟨hcz19_0, hcz19_1, hcz19_2, hfz19_0, hfz19_1, hfz19_2⟩ := bK3 (w := w17) BK159) | ((with_reducible refine gate_callee (f := 66) rfl ?_); refine gL (some 16) Try.func66 #[.agg #[.int .i64 a0_0, .int .i64 a0_1, .bool a0_2], .agg #[.int .i64 a1_0, .int .i64 a1_1, .bool a1_2]] ?_; (with_reducible refine (impl_add.calls k a0_0 a0_1 a0_2 a1_0 a1_1 a1_2 t163 t164 t165 _ A7.out).mono ?_); rintro e w20 ⟨rfl, hb⟩; refine ⟨_, rfl, ?_⟩; replace BK158 := bB BK158 hb; replace BK159 := bB BK159 hb; replace BK160 := bB BK160 hb; replace HB := bS HB hb; (try clear hb); obtain ⟨hcz21_0, hcz21_1, hcz21_2, hfz21_0, hfz21_1, hfz21_2⟩ := bK3 (w := w20) BK160))
   refine rC gb160 25 #[.int .i64 t163, .int .i64 t164, .bool t165] (bU BK160) Try.underlying25 ?_
   exact ⟨rR, bZ HB⟩
  ·replace c6 := Bool.eq_false_iff.mpr c6
   subst c6
   rw [if_neg (show ¬ (false = true) by decide)] at H
   simp only [Option.some.injEq, Prod.mk.injEq] at H
   obtain ⟨rfl, rfl, rfl⟩ := H
   go_enter Try.func19, Try.ntmps19
   go_wp2_with (first | ((with_reducible refine gate_dst (N := 2) rfl ?_); refine bE 2 #[.int .i64 a0_0, .int .i64 a0_1, .bool a0_2] 25 ?_; intro gb158 hg w22 hbox hb; have BK158 := Aside0.mk (hbox); have GW158 := bG HB hg; have GE158 := bG HB hg; replace HB := bS HB hb; clear hb hbox hg) | ((with_reducible refine gate_dst (N := 3) rfl ?_); refine bE 3 #[.int .i64 a1_0, .int .i64 a1_1, .bool a1_2] 25 ?_; intro gb159 hg w23 hbox hb; have BK159 := Aside0.mk (hbox); have GW159 := bG HB hg; have GE159 := bG HB hg; replace HB := bS HB hb; have NB158_159 := bL BK158 hg; have NB159_158 := bR BK158 hg; replace BK158 := bB BK158 hb; clear hb hbox hg) | ((with_reducible refine gate_dst (N := 4) rfl ?_); refine bE 4 #[.int .i64 0, .int .i64 0, .bool false] 25 ?_; intro gb160 hg w24 hbox hb; have BK160 := Aside0.mk (hbox); have GW160 := bG HB hg; have GE160 := bG HB hg; replace HB := bS HB hb; have NB158_160 := bL BK158 hg; have NB160_158 := bR BK158 hg; replace BK158 := bB BK158 hb; have NB159_160 := bL BK159 hg; have NB160_159 := bR BK159 hg; replace BK159 := bB BK159 hb; clear hb hbox hg; obtain ⟨hnb25, hnc25⟩ := nB NB158_159; obtain ⟨hnb26, hnc26⟩ := nB NB158_160; obtain ⟨hcz27_0, hcz27_1, hcz27_2, hfz27_0, hfz27_1, hfz27_2⟩ := bK3 (w := w24) BK158) | ((with_reducible refine gate_callee (f := 31) rfl ?_); refine gL (some 6) Try.func31 #[.agg #[.int .i64 a0_0, .int .i64 a0_1, .bool a0_2]] ?_; (with_reducible refine (impl_PointOk.calls a0_0 a0_1 a0_2 true _ A3.out).mono ?_); rintro e w28 ⟨rfl, hb⟩; refine ⟨_, rfl, ?_⟩; replace BK158 := bB BK158 hb; replace BK159 := bB BK159 hb; replace BK160 := bB BK160 hb; replace HB := bS HB hb; (try clear hb); obtain ⟨hnb29, hnc29⟩ := nB NB159_160; obtain ⟨hcz30_0, hcz30_1, hcz30_2, hfz30_0, hfz30_1, hfz30_2⟩ := bK3 (w := w28) BK159) | (go_at_call 31; (with_reducible refine (impl_PointOk.calls a1_0 a1_1 a1_2 false _ A5.out).mono ?_); rintro e w31 ⟨rfl, hb⟩; replace BK158 := bB BK158 hb; replace BK159 := bB BK159 hb; replace BK160 := bB BK160 hb; replace HB := bS HB hb; (try clear hb); obtain ⟨hcz32_0, hcz32_1, hcz32_2, hfz32_0, hfz32_1, hfz32_2⟩ := bK3 (w := w31) BK160))
   refine rC gb160 25 #[.int .i64 0, .int .i64 0, .bool true] (bU BK160) Try.underlying25 ?_
   exact ⟨rR, bZ HB⟩
 ·replace c4 := Bool.eq_false_iff.mpr c4
  subst c4
  rw [if_neg (show ¬ (false = true) by decide)] at H
  simp only [Option.some.injEq, Prod.mk.injEq] at H
  obtain ⟨rfl, rfl, rfl⟩ := H
  go_enter Try.func19, Try.ntmps19
  go_wp2_with (first | ((with_reducible refine gate_dst (N := 2) rfl ?_); refine bE 2 #[.int .i64 a0_0, .int .i64 a0_1, .bool a0_2] 25 ?_; intro gb158 hg w33 hbox hb; have BK158 := Aside0.mk (hbox); have GW158 := bG HB hg; have GE158 := bG HB hg; replace HB := bS HB hb; clear hb hbox hg) | ((with_reducible refine gate_dst (N := 3) rfl ?_); refine bE 3 #[.int .i64 a1_0, .int .i64 a1_1, .bool a1_2] 25 ?_; intro gb159 hg w34 hbox hb; have BK159 := Aside0.mk (hbox); have GW159 := bG HB hg; have GE159 := bG HB hg; replace HB := bS HB hb; have NB158_159 := bL BK158 hg; have NB159_158 := bR BK158 hg; replace BK158 := bB BK158 hb; clear hb hbox hg) | ((with_reducible refine gate_dst (N := 4) rfl ?_); refine bE 4 #[.int .i64 0, .int .i64 0, .bool false] 25 ?_; intro gb160 hg w35 hbox hb; have BK160 := Aside0.mk (hbox); have GW160 := bG HB hg; have GE160 := bG HB hg; replace HB := bS HB hb; have NB158_160 := bL BK158 hg; have NB160_158 := bR BK158 hg; replace BK158 := bB BK158 hb; have NB159_160 := bL BK159 hg; have NB160_159 := bR BK159 hg; replace BK159 := bB BK159 hb; clear hb hbox hg; obtain ⟨hnb36, hnc36⟩ := nB NB158_159; obtain ⟨hnb37, hnc37⟩ := nB NB158_160; obtain ⟨hcz38_0, hcz38_1, hcz38_2, hfz38_0, hfz38_1, hfz38_2⟩ := bK3 (w := w35) BK158) | ((with_reducible refine gate_callee (f := 31) rfl ?_); refine gL (some 6) Try.func31 #[.agg #[.int .i64 a0_0, .int .i64 a0_1, .bool a0_2]] ?_; (with_reducible refine (impl_PointOk.calls a0_0 a0_1 a0_2 false _ A3.out).mono ?_); rintro e w39 ⟨rfl, hb⟩; refine ⟨_, rfl, ?_⟩; replace BK158 := bB BK158 hb; replace BK159 := bB BK159 hb; replace BK160 := bB BK160 hb; replace HB := bS HB hb; (try clear hb); obtain ⟨hnb40, hnc40⟩ := nB NB160_159; obtain ⟨hcz41_0, hcz41_1, hcz41_2, hfz41_0, hfz41_1, hfz41_2⟩ := bK3 (w := w39) BK160))
  refine rC gb160 25 #[.int .i64 0, .int .i64 0, .bool true] (bU BK160) Try.underlying25 ?_
  exact ⟨rR, bZ HB⟩
/-! ### impl_TwoMul: function 21 -/
def impl_TwoMul.f (a0_0 : Int) (a0_1 : Int) (a1_0 : Int) (a1_1 : Int) : Option (Int × Int) := (impl_FpMul.f a0_0 a1_0).bind fun t714 => ((impl_FpMul.f a0_1 a1_1).bind fun t715 => ((impl_FpSub.f t714 t715).bind fun t716 => ((impl_FpMul.f a0_0 a1_1).bind fun t717 => ((impl_FpMul.f a0_1 a1_0).bind fun t718 => ((impl_FpAdd.f t717 t718).bind fun t719 => (some (t716, t719)))))))
def impl_TwoMul.T1 : Bool × List (List Nat × List Nat) := (true, [([], []), ([0], [0]), ([], []), ([2], [2]), ([1, 3], [1, 3]), ([], []), ([5], [5]), ([], []), ([7], [7]), ([6, 8, 4], [6, 8]), ([4, 9, 9], [4, 9]), ([], []), ([11], [11]), ([], []), ([13], [13]), ([12, 14, 10], [12, 14]), ([], []), ([16], [16]), ([], []), ([18], [18]), ([17, 19, 15], [17, 19]), ([15, 20, 20], [15, 20]), ([10, 21], [10, 21]), ([22, 21, 0, 1, 2, 3, 4, 5, 6, 7, 8, 9, 10, 11, 12, 13, 14, 15, 16, 17, 18, 19, 20, 21, 22], [22])])
def impl_TwoMul.B1 : List Nat := [0, 1, 0, 4, 15, 0, 32, 0, 128, 511, 1023, 0, 2048, 0, 8192, 32767, 0, 65536, 0, 262144, 1048575, 2097151, 4194303, 8388607]
theorem impl_TwoMul.tab1 : rtab .any (opsOf Try.f21 1) = impl_TwoMul.T1 := by kernel_rfl
theorem impl_TwoMul.bits1 : waitsOk impl_TwoMul.T1.2 impl_TwoMul.B1 = true := by kernel_rfl
set_option maxHeartbeats 8000000 in
set_option maxRecDepth 100000 in
theorem impl_TwoMul.calls (a0_0 : Int) (a0_1 : Int) (a1_0 : Int) (a1_1 : Int) (r1 : Int) (r2 : Int) (w : World) (h : impl_TwoMul.f a0_0 a0_1 a1_0 a1_1 = some (r1, r2)) :
  Calls Try.prog 21 #[.agg #[.int .i64 a0_0, .int .i64 a0_1], .agg #[.int .i64 a1_0, .int .i64 a1_1]] w fun e w' => e = .returned (.agg #[.int .i64 r1, .int .i64 r2]) ∧ Below w.heap.size w w' := by
 have hu31 := Try.underlying31
 have HB := Aside0.mk (Below.refl w.heap.size w)
 have H : ((impl_FpMul.f a0_0 a1_0).bind fun t714 => ((impl_FpMul.f a0_1 a1_1).bind fun t715 => ((impl_FpSub.f t714 t715).bind fun t716 => ((impl_FpMul.f a0_0 a1_1).bind fun t717 => ((impl_FpMul.f a0_1 a1_0).bind fun t718 => ((impl_FpAdd.f t717 t718).bind fun t719 => (some (t716, t719)))))))) = some (r1, r2) := h
 clear h
 replace H := Option.bind_eq_some_iff.mp H
 obtain ⟨t714, A30, H⟩ := H
 have A3 := Aside0.mk A30
 clear A30
 replace H := Option.bind_eq_some_iff.mp H
 obtain ⟨t715, A40, H⟩ := H
 have A4 := Aside0.mk A40
 clear A40
 replace H := Option.bind_eq_some_iff.mp H
 obtain ⟨t716, A50, H⟩ := H
 have A5 := Aside0.mk A50
 clear A50
 replace H := Option.bind_eq_some_iff.mp H
 obtain ⟨t717, A60, H⟩ := H
 have A6 := Aside0.mk A60
 clear A60
 replace H := Option.bind_eq_some_iff.mp H
 obtain ⟨t718, A70, H⟩ := H
 have A7 := Aside0.mk A70
 clear A70
 replace H := Option.bind_eq_some_iff.mp H
 obtain ⟨t719, A80, H⟩ := H
 have A8 := Aside0.mk A80
 clear A80
 simp only [Option.some.injEq, Prod.mk.injEq] at H
 obtain ⟨rfl, rfl⟩ := H
 go_enter Try.func21, Try.ntmps21
 try go_wp2_with (first | ((with_reducible refine gate_dst (N := 2) rfl ?_); refine bE 2 #[.int .i64 a0_0, .int .i64 a0_1] 31 ?_; intro gb711 hg w9 hbox hb; have BK711 := Aside0.mk (hbox); have GW711 := bG HB hg; have GE711 := bG HB hg; replace HB := bS HB hb; clear hb hbox hg) | ((with_reducible refine gate_dst (N := 3) rfl ?_); refine bE 3 #[.int .i64 a1_0, .int .i64 a1_1] 31 ?_; intro gb712 hg w10 hbox hb; have BK712 := Aside0.mk (hbox); have GW712 := bG HB hg; have GE712 := bG HB hg; replace HB := bS HB hb; have NB711_712 := bL BK711 hg; have NB712_711 := bR BK711 hg; replace BK711 := bB BK711 hb; clear hb hbox hg) | ((with_reducible refine gate_dst (N := 4) rfl ?_); refine bE 4 #[.int .i64 0, .int .i64 0] 31 ?_; intro gb713 hg w11 hbox hb; have BK713 := Aside0.mk (hbox); have GW713 := bG HB hg; have GE713 := bG HB hg; replace HB := bS HB hb; have NB711_713 := bL BK711 hg; have NB713_711 := bR BK711 hg; replace BK711 := bB BK711 hb; have NB712_713 := bL BK712 hg; have NB713_712 := bR BK712 hg; replace BK712 := bB BK712 hb; clear hb hbox hg))
 replace BK711 := Aside0.mk (blk_drew BK711.out)
 replace BK712 := Aside0.mk (blk_drew BK712.out)
 replace BK713 := Aside0.mk (blk_drew BK713.out)
 replace HB := Aside0.mk (below_drew1 HB.out)
 refine start_ (n := 24) (S := fun w' => SP2 w' gb711 (.int .i64 a0_0) (.int .i64 a0_1) (SQ2 w' gb712 (.int .i64 a1_0) (.int .i64 a1_1))) (ds := []) #[false, false, false, false, false, false, false, false, false, false, false, false, false, false, false, false, false, false, false, false, false, false, false, false] (by kernel_rfl) rfl rfl (bS2 BK711 (bT2 BK712)) (fun hHeld => ?_); refine with_tabW impl_TwoMul.tab1 impl_TwoMul.bits1 (fun HT_ HW_ => ?_)
 generalize w11.drew = w12 at BK711 BK712 BK713 HB hHeld ⊢
 refine pI 0 (some 5) HT_.out ?_
 refine pI 2 (some 7) HT_.out ?_
 refine pI 5 (some 10) HT_.out ?_
 refine pI 7 (some 12) HT_.out ?_
 refine pI 11 (some 16) HT_.out ?_
 refine pI 13 (some 18) HT_.out ?_
 refine pI 16 (some 21) HT_.out ?_
 refine pI 18 (some 23) HT_.out ?_
 refine tI4 1 (some 6) HT_.out HW_.out hHeld ?_
 refine tI4 3 (some 8) HT_.out HW_.out hHeld ?_
 refine tI4 6 (some 11) HT_.out HW_.out hHeld ?_
 refine tI4 8 (some 13) HT_.out HW_.out hHeld ?_
 refine tI4 12 (some 17) HT_.out HW_.out hHeld ?_
 refine tI4 14 (some 19) HT_.out HW_.out hHeld ?_
 refine tI4 17 (some 22) HT_.out HW_.out hHeld ?_
 refine tI4 19 (some 24) HT_.out HW_.out hHeld ?_
 refine oI 4 (some 9) HT_.out (fun K hK => ?_)
 refine gO Try.func68 #[.int .i64 a0_0, .int .i64 a1_0] ?_
 with_reducible refine (impl_FpMul.calls a0_0 a1_0 t714 _ A3.out).mono ?_
 rintro e w' ⟨rfl, ⟨nd, rfl⟩⟩
 refine ⟨_, rfl, ?_⟩
 refine hK.out _ _ (bS2 BK711 (bT2 BK712)) (fun hHeld => ?_)
 clear hK K
 refine nO (some 9) ?_
 refine oI 9 (some 14) HT_.out (fun K hK => ?_)
 refine gO Try.func68 #[.int .i64 a0_1, .int .i64 a1_1] ?_
 with_reducible refine (impl_FpMul.calls a0_1 a1_1 t715 _ A4.out).mono ?_
 rintro e w' ⟨rfl, ⟨nd, rfl⟩⟩
 refine ⟨_, rfl, ?_⟩
 refine hK.out _ _ (bS2 BK711 (bT2 BK712)) (fun hHeld => ?_)
 clear hK K
 refine nO (some 14) ?_
 refine oI 10 (some 15) HT_.out (fun K hK => ?_)
 refine gO Try.func67 #[.int .i64 t714, .int .i64 t715] ?_
 with_reducible refine (impl_FpSub.calls t714 t715 t716 _ A5.out).mono ?_
 rintro e w' ⟨rfl, ⟨nd, rfl⟩⟩
 refine ⟨_, rfl, ?_⟩
 refine hK.out _ _ (bS2 BK711 (bT2 BK712)) (fun hHeld => ?_)
 clear hK K
 refine nO (some 15) ?_
 refine oI 15 (some 20) HT_.out (fun K hK => ?_)
 refine gO Try.func68 #[.int .i64 a0_0, .int .i64 a1_1] ?_
 with_reducible refine (impl_FpMul.calls a0_0 a1_1 t717 _ A6.out).mono ?_
 rintro e w' ⟨rfl, ⟨nd, rfl⟩⟩
 refine ⟨_, rfl, ?_⟩
 refine hK.out _ _ (bS2 BK711 (bT2 BK712)) (fun hHeld => ?_)
 clear hK K
 refine nO (some 20) ?_
 refine oI 20 (some 25) HT_.out (fun K hK => ?_)
 refine gO Try.func68 #[.int .i64 a0_1, .int .i64 a1_0] ?_
 with_reducible refine (impl_FpMul.calls a0_1 a1_0 t718 _ A7.out).mono ?_
 rintro e w' ⟨rfl, ⟨nd, rfl⟩⟩
 refine ⟨_, rfl, ?_⟩
 refine hK.out _ _ (bS2 BK711 (bT2 BK712)) (fun hHeld => ?_)
 clear hK K
 refine nO (some 25) ?_
 refine oI 21 (some 26) HT_.out (fun K hK => ?_)
 refine gO Try.func69 #[.int .i64 t717, .int .i64 t718] ?_
 with_reducible refine (impl_FpAdd.calls t717 t718 t719 _ A8.out).mono ?_
 rintro e w' ⟨rfl, ⟨nd, rfl⟩⟩
 refine ⟨_, rfl, ?_⟩
 refine hK.out _ _ (bS2 BK711 (bT2 BK712)) (fun hHeld => ?_)
 clear hK K
 refine nO (some 26) ?_
 refine pI 22 (some 27) HT_.out ?_
 refine oI 23 (none) HT_.out (fun K hK => ?_)
 have hs13 : w12.cell? ⟨gb713, 0, none⟩ = some (.int .i64 0) := bc BK713 0
 have hfs13 := blk_frozen BK713.out 0
 have hns13_0 := NB711_713.out
 have hns13_1 := NB712_713.out
 have hms13_0 := NB713_711.out
 have hms13_1 := NB713_712.out
 have hs14 : w12.cell? ⟨gb713, 1, none⟩ = some (.int .i64 0) := bc BK713 1
 have hfs14 := blk_frozen BK713.out 1
 have hns14_0 := NB711_713.out
 have hns14_1 := NB712_713.out
 have hms14_0 := NB713_711.out
 have hms14_1 := NB713_712.out
 refine skip_ (w1 := ?_) (by rfl) rfl ?_ ?_
 rotate_left
 ·go_simp
  rfl
 refine hK.out _ _ ⟨((cell_far (p := ⟨gb713, _, none⟩) NB711_713.out _).trans (((cell_far (p := ⟨gb713, _, none⟩) NB711_713.out _).trans (hHeld.1)))), ((cell_far (p := ⟨gb713, _, none⟩) NB711_713.out _).trans (((cell_far (p := ⟨gb713, _, none⟩) NB711_713.out _).trans (hHeld.2.1)))), ((cell_far (p := ⟨gb713, _, none⟩) NB712_713.out _).trans (((cell_far (p := ⟨gb713, _, none⟩) NB712_713.out _).trans (hHeld.2.2.1)))), ((cell_far (p := ⟨gb713, _, none⟩) NB712_713.out _).trans (((cell_far (p := ⟨gb713, _, none⟩) NB712_713.out _).trans (hHeld.2.2.2))))⟩ (fun hHeld => ?_)
 clear hK K
 refine done_ (done_of HT_.out (by kernel_rfl)) ?_
 try go_wp2
 refine rC gb713 31 #[.int .i64 t716, .int .i64 t719] (bU BK713) Try.underlying31 ?_
 exact ⟨rR, bZ HB⟩
/-! ### bits_Len64: function 106 -/
def bits_Len64.j0 : Nat → Int → Int → Option (Int)
 | 0, _, _ => none
 | k + 1, x0, x2 => if x0 ≥ 65536 then (if (x0 / 65536) ≥ 256 then (if 0 ≤ (((x0 / 65536) / 256) % 256) then (if (((x0 / 65536) / 256) % 256) < 256 then (some (wrap64 ((wrap64 ((wrap64 (x2 + 16)) + 8)) + (wrap64 (bt (⟨#[0, 1, 2, 2, 3, 3, 3, 3, 4, 4, 4, 4, 4, 4, 4, 4, 5, 5, 5, 5, 5, 5, 5, 5, 5, 5, 5, 5, 5, 5, 5, 5, 6, 6, 6, 6, 6, 6, 6, 6, 6, 6, 6, 6, 6, 6, 6, 6, 6, 6, 6, 6, 6, 6, 6, 6, 6, 6, 6, 6, 6, 6, 6, 6, 7, 7, 7, 7, 7, 7, 7, 7, 7, 7, 7, 7, 7, 7, 7, 7, 7, 7, 7, 7, 7, 7, 7, 7, 7, 7, 7, 7, 7, 7, 7, 7, 7, 7, 7, 7, 7, 7, 7, 7, 7, 7, 7, 7, 7, 7, 7, 7, 7, 7, 7, 7, 7, 7, 7, 7, 7, 7, 7, 7, 7, 7, 7, 7, 8, 8, 8, 8, 8, 8, 8, 8, 8, 8, 8, 8, 8, 8, 8, 8, 8, 8, 8, 8, 8, 8, 8, 8, 8, 8, 8, 8, 8, 8, 8, 8, 8, 8, 8, 8, 8, 8, 8, 8, 8, 8, 8, 8, 8, 8, 8, 8, 8, 8, 8, 8, 8, 8, 8, 8, 8, 8, 8, 8, 8, 8, 8, 8, 8, 8, 8, 8, 8, 8, 8, 8, 8, 8, 8, 8, 8, 8, 8, 8, 8, 8, 8, 8, 8, 8, 8, 8, 8, 8, 8, 8, 8, 8, 8, 8, 8, 8, 8, 8, 8, 8, 8, 8, 8, 8, 8, 8, 8, 8, 8, 8, 8, 8, 8, 8, 8, 8, 8, 8, 8, 8, 8, 8, 8, 8, 8, 8]⟩ : ByteArray) (((x0 / 65536) / 256) % 256)))))) else (none)) else (none)) else (if 0 ≤ ((x0 / 65536) % 256) then (if ((x0 / 65536) % 256) < 256 then (some (wrap64 ((wrap64 (x2 + 16)) + (wrap64 (bt (⟨#[0, 1, 2, 2, 3, 3, 3, 3, 4, 4, 4, 4, 4, 4, 4, 4, 5, 5, 5, 5, 5, 5, 5, 5, 5, 5, 5, 5, 5, 5, 5, 5, 6, 6, 6, 6, 6, 6, 6, 6, 6, 6, 6, 6, 6, 6, 6, 6, 6, 6, 6, 6, 6, 6, 6, 6, 6, 6, 6, 6, 6, 6, 6, 6, 7, 7, 7, 7, 7, 7, 7, 7, 7, 7, 7, 7, 7, 7, 7, 7, 7, 7, 7, 7, 7, 7, 7, 7, 7, 7, 7, 7, 7, 7, 7, 7, 7, 7, 7, 7, 7, 7, 7, 7, 7, 7, 7, 7, 7, 7, 7, 7, 7, 7, 7, 7, 7, 7, 7, 7, 7, 7, 7, 7, 7, 7, 7, 7, 8, 8, 8, 8, 8, 8, 8, 8, 8, 8, 8, 8, 8, 8, 8, 8, 8, 8, 8, 8, 8, 8, 8, 8, 8, 8, 8, 8, 8, 8, 8, 8, 8, 8, 8, 8, 8, 8, 8, 8, 8, 8, 8, 8, 8, 8, 8, 8, 8, 8, 8, 8, 8, 8, 8, 8, 8, 8, 8, 8, 8, 8, 8, 8, 8, 8, 8, 8, 8, 8, 8, 8, 8, 8, 8, 8, 8, 8, 8, 8, 8, 8, 8, 8, 8, 8, 8, 8, 8, 8, 8, 8, 8, 8, 8, 8, 8, 8, 8, 8, 8, 8, 8, 8, 8, 8, 8, 8, 8, 8, 8, 8, 8, 8, 8, 8, 8, 8, 8, 8, 8, 8, 8, 8, 8, 8, 8, 8]⟩ : ByteArray) ((x0 / 65536) % 256)))))) else (none)) else (none))) else (if x0 ≥ 256 then (if 0 ≤ ((x0 / 256) % 256) then (if ((x0 / 256) % 256) < 256 then (some (wrap64 ((wrap64 (x2 + 8)) + (wrap64 (bt (⟨#[0, 1, 2, 2, 3, 3, 3, 3, 4, 4, 4, 4, 4, 4, 4, 4, 5, 5, 5, 5, 5, 5, 5, 5, 5, 5, 5, 5, 5, 5, 5, 5, 6, 6, 6, 6, 6, 6, 6, 6, 6, 6, 6, 6, 6, 6, 6, 6, 6, 6, 6, 6, 6, 6, 6, 6, 6, 6, 6, 6, 6, 6, 6, 6, 7, 7, 7, 7, 7, 7, 7, 7, 7, 7, 7, 7, 7, 7, 7, 7, 7, 7, 7, 7, 7, 7, 7, 7, 7, 7, 7, 7, 7, 7, 7, 7, 7, 7, 7, 7, 7, 7, 7, 7, 7, 7, 7, 7, 7, 7, 7, 7, 7, 7, 7, 7, 7, 7, 7, 7, 7, 7, 7, 7, 7, 7, 7, 7, 8, 8, 8, 8, 8, 8, 8, 8, 8, 8, 8, 8, 8, 8, 8, 8, 8, 8, 8, 8, 8, 8, 8, 8, 8, 8, 8, 8, 8, 8, 8, 8, 8, 8, 8, 8, 8, 8, 8, 8, 8, 8, 8, 8, 8, 8, 8, 8, 8, 8, 8, 8, 8, 8, 8, 8, 8, 8, 8, 8, 8, 8, 8, 8, 8, 8, 8, 8, 8, 8, 8, 8, 8, 8, 8, 8, 8, 8, 8, 8, 8, 8, 8, 8, 8, 8, 8, 8, 8, 8, 8, 8, 8, 8, 8, 8, 8, 8, 8, 8, 8, 8, 8, 8, 8, 8, 8, 8, 8, 8, 8, 8, 8, 8, 8, 8, 8, 8, 8, 8, 8, 8, 8, 8, 8, 8, 8, 8]⟩ : ByteArray) ((x0 / 256) % 256)))))) else (none)) else (none)) else (if 0 ≤ ((x0) % 256) then (if ((x0) % 256) < 256 then (some (wrap64 (x2 + (wrap64 (bt (⟨#[0, 1, 2, 2, 3, 3, 3, 3, 4, 4, 4, 4, 4, 4, 4, 4, 5, 5, 5, 5, 5, 5, 5, 5, 5, 5, 5, 5, 5, 5, 5, 5, 6, 6, 6, 6, 6, 6, 6, 6, 6, 6, 6, 6, 6, 6, 6, 6, 6, 6, 6, 6, 6, 6, 6, 6, 6, 6, 6, 6, 6, 6, 6, 6, 7, 7, 7, 7, 7, 7, 7, 7, 7, 7, 7, 7, 7, 7, 7, 7, 7, 7, 7, 7, 7, 7, 7, 7, 7, 7, 7, 7, 7, 7, 7, 7, 7, 7, 7, 7, 7, 7, 7, 7, 7, 7, 7, 7, 7, 7, 7, 7, 7, 7, 7, 7, 7, 7, 7, 7, 7, 7, 7, 7, 7, 7, 7, 7, 8, 8, 8, 8, 8, 8, 8, 8, 8, 8, 8, 8, 8, 8, 8, 8, 8, 8, 8, 8, 8, 8, 8, 8, 8, 8, 8, 8, 8, 8, 8, 8, 8, 8, 8, 8, 8, 8, 8, 8, 8, 8, 8, 8, 8, 8, 8, 8, 8, 8, 8, 8, 8, 8, 8, 8, 8, 8, 8, 8, 8, 8, 8, 8, 8, 8, 8, 8, 8, 8, 8, 8, 8, 8, 8, 8, 8, 8, 8, 8, 8, 8, 8, 8, 8, 8, 8, 8, 8, 8, 8, 8, 8, 8, 8, 8, 8, 8, 8, 8, 8, 8, 8, 8, 8, 8, 8, 8, 8, 8, 8, 8, 8, 8, 8, 8, 8, 8, 8, 8, 8, 8, 8, 8, 8, 8, 8, 8]⟩ : ByteArray) ((x0) % 256)))))) else (none)) else (none)))
def bits_Len64.f (k : Nat) (a0 : Int) : Option (Int) := if a0 ≥ 4294967296 then (bits_Len64.j0 k (a0 / 4294967296) 32) else (bits_Len64.j0 k a0 0)
theorem bits_Len64.mono_l : ∀ k, (∀ y0 y1, LeO (bits_Len64.j0 k y0 y1) (bits_Len64.j0 (k + 1) y0 y1))
 | 0 => fun _ _ r h => by simp [bits_Len64.j0] at h
 | k + 1 => by
  have ih0 := bits_Len64.mono_l k
  ·intro y0 y1
   unfold bits_Len64.j0
   repeat' first
   | (with_reducible exact ih0 _ _)
   | (with_reducible exact LeO.refl _)
   | (with_reducible exact LeO.none _)
   | (with_reducible refine LeO.ite ?_ ?_)
   | (with_reducible refine LeO.bind ?_ (fun _ => ?_))
   | exact ih0 _ _
   | exact LeO.none _
   | refine LeO.ite ?_ ?_
   | refine LeO.bind ?_ (fun _ => ?_)
theorem bits_Len64.mono : ∀ a0 k, LeO (bits_Len64.f k a0) (bits_Len64.f (k + 1) a0) := by
 intro a0 k
 have ih0 := bits_Len64.mono_l k
 unfold bits_Len64.f
 repeat' first
   | (with_reducible exact ih0 _ _)
   | (with_reducible exact LeO.refl _)
   | (with_reducible exact LeO.none _)
   | (with_reducible refine LeO.ite ?_ ?_)
   | (with_reducible refine LeO.bind ?_ (fun _ => ?_))
   | exact ih0 _ _
   | exact LeO.none _
   | refine LeO.ite ?_ ?_
   | refine LeO.bind ?_ (fun _ => ?_)
set_option maxHeartbeats 8000000 in
set_option maxRecDepth 100000 in
theorem bits_Len64.calls (k : Nat) (a0 : Int) (r : Int) (w : World) (h : bits_Len64.f k a0 = some r) :
  Calls Try.prog 106 #[.int .u64 a0] w fun e w' => e = .returned (.int .i64 r) ∧ Drawn0 w w' := by
 have H : (if a0 ≥ 4294967296 then (bits_Len64.j0 k (a0 / 4294967296) 32) else (bits_Len64.j0 k a0 0)) = some r := h
 clear h
 have HC2 := Aside0.mk H
 clear H
 go_enter Try.func106, Try.ntmps106
 go_upto_if 4 with (fail)
 go_cut [0, 2] (fun v0 v2 wc => ∃ (kq : Nat) (x0_1 : Int) (x2_1 : Int), v0 = .int .u64 x0_1 ∧ v2 = .int .i64 x2_1 ∧ Aside0 (bits_Len64.j0 kq x0_1 x2_1 = some r) ∧ Aside0 (kq ≤ k) ∧ Drawn0 w wc)
 case first =>
  have H := HC2.out
  clear HC2
  by_cases c3 : a0 ≥ 4294967296
  ·rw [if_pos c3] at H
   have c3b0 : decide (4294967296 ≤ a0) = true := decide_eq_true c3
   clear c3
   (first | rw [c3b0] | (simp only [i64_w, i32_w]; rw [c3b0]) | rw [c3b1] | skip)
   have H' := Aside0.mk H
   clear H
   go_wp2
   go_meet
   case rel => exact ⟨_, (a0 / 4294967296), (32), rS, rS, H', ⟨by first | omega | exact Nat.le_refl _⟩, by repeat (first | exact Drawn0.refl _ | apply Drawn0.step)⟩
  ·rw [if_neg c3] at H
   have c3b0 : decide (4294967296 ≤ a0) = false := decide_eq_false c3
   clear c3
   (first | rw [c3b0] | (simp only [i64_w, i32_w]; rw [c3b0]) | rw [c3b1] | skip)
   have H' := Aside0.mk H
   clear H
   go_wp2
   go_meet
   case rel => exact ⟨_, (a0), (0), rS, rS, H', ⟨by first | omega | exact Nat.le_refl _⟩, by repeat (first | exact Drawn0.refl _ | apply Drawn0.step)⟩
 case rest =>
  clear HC2
  try clear c1
  try clear p2
  try clear c3
  try clear c3b0
  obtain ⟨kq, x0_1, x2_1, rfl, rfl, HA, HJ1, ⟨mc1, rfl⟩⟩ := hcut
  cases kq with
  | zero => exact absurd HA.out (by simp [bits_Len64.j0])
  | succ kj1 =>
   have H := HA.out
   clear HA
   simp only [bits_Len64.j0] at H
   by_cases c4 : x0_1 ≥ 65536
   ·rw [if_pos c4] at H
    have c4b0 : decide (65536 ≤ x0_1) = true := decide_eq_true c4
    clear c4
    by_cases c5 : (x0_1 / 65536) ≥ 256
    ·rw [if_pos c5] at H
     have c5b0 : decide (256 ≤ (x0_1 / 65536)) = true := decide_eq_true c5
     clear c5
     obtain ⟨ji6, hji6⟩ : ∃ j_ : Int, (((x0_1 / 65536) / 256) % 256) = j_ := ⟨_, rfl⟩
     replace H : (if 0 ≤ (ji6) then (if (ji6) < 256 then (some (wrap64 ((wrap64 ((wrap64 (x2_1 + 16)) + 8)) + (wrap64 (bt (⟨#[0, 1, 2, 2, 3, 3, 3, 3, 4, 4, 4, 4, 4, 4, 4, 4, 5, 5, 5, 5, 5, 5, 5, 5, 5, 5, 5, 5, 5, 5, 5, 5, 6, 6, 6, 6, 6, 6, 6, 6, 6, 6, 6, 6, 6, 6, 6, 6, 6, 6, 6, 6, 6, 6, 6, 6, 6, 6, 6, 6, 6, 6, 6, 6, 7, 7, 7, 7, 7, 7, 7, 7, 7, 7, 7, 7, 7, 7, 7, 7, 7, 7, 7, 7, 7, 7, 7, 7, 7, 7, 7, 7, 7, 7, 7, 7, 7, 7, 7, 7, 7, 7, 7, 7, 7, 7, 7, 7, 7, 7, 7, 7, 7, 7, 7, 7, 7, 7, 7, 7, 7, 7, 7, 7, 7, 7, 7, 7, 8, 8, 8, 8, 8, 8, 8, 8, 8, 8, 8, 8, 8, 8, 8, 8, 8, 8, 8, 8, 8, 8, 8, 8, 8, 8, 8, 8, 8, 8, 8, 8, 8, 8, 8, 8, 8, 8, 8, 8, 8, 8, 8, 8, 8, 8, 8, 8, 8, 8, 8, 8, 8, 8, 8, 8, 8, 8, 8, 8, 8, 8, 8, 8, 8, 8, 8, 8, 8, 8, 8, 8, 8, 8, 8, 8, 8, 8, 8, 8, 8, 8, 8, 8, 8, 8, 8, 8, 8, 8, 8, 8, 8, 8, 8, 8, 8, 8, 8, 8, 8, 8, 8, 8, 8, 8, 8, 8, 8, 8, 8, 8, 8, 8, 8, 8, 8, 8, 8, 8, 8, 8, 8, 8, 8, 8, 8, 8]⟩ : ByteArray) (ji6)))))) else (none)) else (none)) = some r := by first | (rw [hji6] at H; exact H) | (simp only [hji6] at H ⊢; exact H)
     by_cases c7 : 0 ≤ (ji6)
     ·rw [if_pos c7] at H
      have c7b0 : decide (0 ≤ (ji6)) = true := decide_eq_true c7
      clear c7
      by_cases c8 : (ji6) < 256
      ·rw [if_pos c8] at H
       have c8b0 : decide ((ji6) < 256) = true := decide_eq_true c8
       clear c8
       obtain rfl := Option.some.inj H
       have p9 : 0 ≤ ((ji6) : Int) := of_decide_eq_true (by first | (with_reducible assumption) | assumption)
       have q9 : (ji6) < (256 : Int) := of_decide_eq_true (by first | (with_reducible assumption) | assumption)
       have hx9 := bt_at (⟨#[0, 1, 2, 2, 3, 3, 3, 3, 4, 4, 4, 4, 4, 4, 4, 4, 5, 5, 5, 5, 5, 5, 5, 5, 5, 5, 5, 5, 5, 5, 5, 5, 6, 6, 6, 6, 6, 6, 6, 6, 6, 6, 6, 6, 6, 6, 6, 6, 6, 6, 6, 6, 6, 6, 6, 6, 6, 6, 6, 6, 6, 6, 6, 6, 7, 7, 7, 7, 7, 7, 7, 7, 7, 7, 7, 7, 7, 7, 7, 7, 7, 7, 7, 7, 7, 7, 7, 7, 7, 7, 7, 7, 7, 7, 7, 7, 7, 7, 7, 7, 7, 7, 7, 7, 7, 7, 7, 7, 7, 7, 7, 7, 7, 7, 7, 7, 7, 7, 7, 7, 7, 7, 7, 7, 7, 7, 7, 7, 8, 8, 8, 8, 8, 8, 8, 8, 8, 8, 8, 8, 8, 8, 8, 8, 8, 8, 8, 8, 8, 8, 8, 8, 8, 8, 8, 8, 8, 8, 8, 8, 8, 8, 8, 8, 8, 8, 8, 8, 8, 8, 8, 8, 8, 8, 8, 8, 8, 8, 8, 8, 8, 8, 8, 8, 8, 8, 8, 8, 8, 8, 8, 8, 8, 8, 8, 8, 8, 8, 8, 8, 8, 8, 8, 8, 8, 8, 8, 8, 8, 8, 8, 8, 8, 8, 8, 8, 8, 8, 8, 8, 8, 8, 8, 8, 8, 8, 8, 8, 8, 8, 8, 8, 8, 8, 8, 8, 8, 8, 8, 8, 8, 8, 8, 8, 8, 8, 8, 8, 8, 8, 8, 8, 8, 8, 8, 8]⟩ : ByteArray) (ji6)
       replace p9 := eq_true p9
       replace q9 := eq_true q9
       go_wp2
       go_ret
       exact ⟨by first | rfl | (simp; done) | (simp only [← hji6] <;> (first | rfl | simp)) | (simp [*]; done), by repeat (first | exact Drawn0.refl _ | apply Drawn0.step)⟩
      ·rw [if_neg c8] at H
       exact absurd H (by simp)
     ·rw [if_neg c7] at H
      exact absurd H (by simp)
    ·rw [if_neg c5] at H
     have c5b0 : decide (256 ≤ (x0_1 / 65536)) = false := decide_eq_false c5
     clear c5
     obtain ⟨ji10, hji10⟩ : ∃ j_ : Int, ((x0_1 / 65536) % 256) = j_ := ⟨_, rfl⟩
     replace H : (if 0 ≤ (ji10) then (if (ji10) < 256 then (some (wrap64 ((wrap64 (x2_1 + 16)) + (wrap64 (bt (⟨#[0, 1, 2, 2, 3, 3, 3, 3, 4, 4, 4, 4, 4, 4, 4, 4, 5, 5, 5, 5, 5, 5, 5, 5, 5, 5, 5, 5, 5, 5, 5, 5, 6, 6, 6, 6, 6, 6, 6, 6, 6, 6, 6, 6, 6, 6, 6, 6, 6, 6, 6, 6, 6, 6, 6, 6, 6, 6, 6, 6, 6, 6, 6, 6, 7, 7, 7, 7, 7, 7, 7, 7, 7, 7, 7, 7, 7, 7, 7, 7, 7, 7, 7, 7, 7, 7, 7, 7, 7, 7, 7, 7, 7, 7, 7, 7, 7, 7, 7, 7, 7, 7, 7, 7, 7, 7, 7, 7, 7, 7, 7, 7, 7, 7, 7, 7, 7, 7, 7, 7, 7, 7, 7, 7, 7, 7, 7, 7, 8, 8, 8, 8, 8, 8, 8, 8, 8, 8, 8, 8, 8, 8, 8, 8, 8, 8, 8, 8, 8, 8, 8, 8, 8, 8, 8, 8, 8, 8, 8, 8, 8, 8, 8, 8, 8, 8, 8, 8, 8, 8, 8, 8, 8, 8, 8, 8, 8, 8, 8, 8, 8, 8, 8, 8, 8, 8, 8, 8, 8, 8, 8, 8, 8, 8, 8, 8, 8, 8, 8, 8, 8, 8, 8, 8, 8, 8, 8, 8, 8, 8, 8, 8, 8, 8, 8, 8, 8, 8, 8, 8, 8, 8, 8, 8, 8, 8, 8, 8, 8, 8, 8, 8, 8, 8, 8, 8, 8, 8, 8, 8, 8, 8, 8, 8, 8, 8, 8, 8, 8, 8, 8, 8, 8, 8, 8, 8]⟩ : ByteArray) (ji10)))))) else (none)) else (none)) = some r := by first | (rw [hji10] at H; exact H) | (simp only [hji10] at H ⊢; exact H)
     by_cases c11 : 0 ≤ (ji10)
     ·rw [if_pos c11] at H
      have c11b0 : decide (0 ≤ (ji10)) = true := decide_eq_true c11
      clear c11
      by_cases c12 : (ji10) < 256
      ·rw [if_pos c12] at H
       have c12b0 : decide ((ji10) < 256) = true := decide_eq_true c12
       clear c12
       obtain rfl := Option.some.inj H
       have p13 : 0 ≤ ((ji10) : Int) := of_decide_eq_true (by first | (with_reducible assumption) | assumption)
       have q13 : (ji10) < (256 : Int) := of_decide_eq_true (by first | (with_reducible assumption) | assumption)
       have hx13 := bt_at (⟨#[0, 1, 2, 2, 3, 3, 3, 3, 4, 4, 4, 4, 4, 4, 4, 4, 5, 5, 5, 5, 5, 5, 5, 5, 5, 5, 5, 5, 5, 5, 5, 5, 6, 6, 6, 6, 6, 6, 6, 6, 6, 6, 6, 6, 6, 6, 6, 6, 6, 6, 6, 6, 6, 6, 6, 6, 6, 6, 6, 6, 6, 6, 6, 6, 7, 7, 7, 7, 7, 7, 7, 7, 7, 7, 7, 7, 7, 7, 7, 7, 7, 7, 7, 7, 7, 7, 7, 7, 7, 7, 7, 7, 7, 7, 7, 7, 7, 7, 7, 7, 7, 7, 7, 7, 7, 7, 7, 7, 7, 7, 7, 7, 7, 7, 7, 7, 7, 7, 7, 7, 7, 7, 7, 7, 7, 7, 7, 7, 8, 8, 8, 8, 8, 8, 8, 8, 8, 8, 8, 8, 8, 8, 8, 8, 8, 8, 8, 8, 8, 8, 8, 8, 8, 8, 8, 8, 8, 8, 8, 8, 8, 8, 8, 8, 8, 8, 8, 8, 8, 8, 8, 8, 8, 8, 8, 8, 8, 8, 8, 8, 8, 8, 8, 8, 8, 8, 8, 8, 8, 8, 8, 8, 8, 8, 8, 8, 8, 8, 8, 8, 8, 8, 8, 8, 8, 8, 8, 8, 8, 8, 8, 8, 8, 8, 8, 8, 8, 8, 8, 8, 8, 8, 8, 8, 8, 8, 8, 8, 8, 8, 8, 8, 8, 8, 8, 8, 8, 8, 8, 8, 8, 8, 8, 8, 8, 8, 8, 8, 8, 8, 8, 8, 8, 8, 8, 8]⟩ : ByteArray) (ji10)
       replace p13 := eq_true p13
       replace q13 := eq_true q13
       go_wp2
       go_ret
       exact ⟨by first | rfl | (simp; done) | (simp only [← hji10] <;> (first | rfl | simp)) | (simp [*]; done), by repeat (first | exact Drawn0.refl _ | apply Drawn0.step)⟩
      ·rw [if_neg c12] at H
       exact absurd H (by simp)
     ·rw [if_neg c11] at H
      exact absurd H (by simp)
   ·rw [if_neg c4] at H
    have c4b0 : decide (65536 ≤ x0_1) = false := decide_eq_false c4
    clear c4
    by_cases c14 : x0_1 ≥ 256
    ·rw [if_pos c14] at H
     have c14b0 : decide (256 ≤ x0_1) = true := decide_eq_true c14
     clear c14
     obtain ⟨ji15, hji15⟩ : ∃ j_ : Int, ((x0_1 / 256) % 256) = j_ := ⟨_, rfl⟩
     replace H : (if 0 ≤ (ji15) then (if (ji15) < 256 then (some (wrap64 ((wrap64 (x2_1 + 8)) + (wrap64 (bt (⟨#[0, 1, 2, 2, 3, 3, 3, 3, 4, 4, 4, 4, 4, 4, 4, 4, 5, 5, 5, 5, 5, 5, 5, 5, 5, 5, 5, 5, 5, 5, 5, 5, 6, 6, 6, 6, 6, 6, 6, 6, 6, 6, 6, 6, 6, 6, 6, 6, 6, 6, 6, 6, 6, 6, 6, 6, 6, 6, 6, 6, 6, 6, 6, 6, 7, 7, 7, 7, 7, 7, 7, 7, 7, 7, 7, 7, 7, 7, 7, 7, 7, 7, 7, 7, 7, 7, 7, 7, 7, 7, 7, 7, 7, 7, 7, 7, 7, 7, 7, 7, 7, 7, 7, 7, 7, 7, 7, 7, 7, 7, 7, 7, 7, 7, 7, 7, 7, 7, 7, 7, 7, 7, 7, 7, 7, 7, 7, 7, 8, 8, 8, 8, 8, 8, 8, 8, 8, 8, 8, 8, 8, 8, 8, 8, 8, 8, 8, 8, 8, 8, 8, 8, 8, 8, 8, 8, 8, 8, 8, 8, 8, 8, 8, 8, 8, 8, 8, 8, 8, 8, 8, 8, 8, 8, 8, 8, 8, 8, 8, 8, 8, 8, 8, 8, 8, 8, 8, 8, 8, 8, 8, 8, 8, 8, 8, 8, 8, 8, 8, 8, 8, 8, 8, 8, 8, 8, 8, 8, 8, 8, 8, 8, 8, 8, 8, 8, 8, 8, 8, 8, 8, 8, 8, 8, 8, 8, 8, 8, 8, 8, 8, 8, 8, 8, 8, 8, 8, 8, 8, 8, 8, 8, 8, 8, 8, 8, 8, 8, 8, 8, 8, 8, 8, 8, 8, 8]⟩ : ByteArray) (ji15)))))) else (none)) else (none)) = some r := by first | (rw [hji15] at H; exact H) | (simp only [hji15] at H ⊢; exact H)
     by_cases c16 : 0 ≤ (ji15)
     ·rw [if_pos c16] at H
      have c16b0 : decide (0 ≤ (ji15)) = true := decide_eq_true c16
      clear c16
      by_cases c17 : (ji15) < 256
      ·rw [if_pos c17] at H
       have c17b0 : decide ((ji15) < 256) = true := decide_eq_true c17
       clear c17
       obtain rfl := Option.some.inj H
       have p18 : 0 ≤ ((ji15) : Int) := of_decide_eq_true (by first | (with_reducible assumption) | assumption)
       have q18 : (ji15) < (256 : Int) := of_decide_eq_true (by first | (with_reducible assumption) | assumption)
       have hx18 := bt_at (⟨#[0, 1, 2, 2, 3, 3, 3, 3, 4, 4, 4, 4, 4, 4, 4, 4, 5, 5, 5, 5, 5, 5, 5, 5, 5, 5, 5, 5, 5, 5, 5, 5, 6, 6, 6, 6, 6, 6, 6, 6, 6, 6, 6, 6, 6, 6, 6, 6, 6, 6, 6, 6, 6, 6, 6, 6, 6, 6, 6, 6, 6, 6, 6, 6, 7, 7, 7, 7, 7, 7, 7, 7, 7, 7, 7, 7, 7, 7, 7, 7, 7, 7, 7, 7, 7, 7, 7, 7, 7, 7, 7, 7, 7, 7, 7, 7, 7, 7, 7, 7, 7, 7, 7, 7, 7, 7, 7, 7, 7, 7, 7, 7, 7, 7, 7, 7, 7, 7, 7, 7, 7, 7, 7, 7, 7, 7, 7, 7, 8, 8, 8, 8, 8, 8, 8, 8, 8, 8, 8, 8, 8, 8, 8, 8, 8, 8, 8, 8, 8, 8, 8, 8, 8, 8, 8, 8, 8, 8, 8, 8, 8, 8, 8, 8, 8, 8, 8, 8, 8, 8, 8, 8, 8, 8, 8, 8, 8, 8, 8, 8, 8, 8, 8, 8, 8, 8, 8, 8, 8, 8, 8, 8, 8, 8, 8, 8, 8, 8, 8, 8, 8, 8, 8, 8, 8, 8, 8, 8, 8, 8, 8, 8, 8, 8, 8, 8, 8, 8, 8, 8, 8, 8, 8, 8, 8, 8, 8, 8, 8, 8, 8, 8, 8, 8, 8, 8, 8, 8, 8, 8, 8, 8, 8, 8, 8, 8, 8, 8, 8, 8, 8, 8, 8, 8, 8, 8]⟩ : ByteArray) (ji15)
       replace p18 := eq_true p18
       replace q18 := eq_true q18
       go_wp2
       go_ret
       exact ⟨by first | rfl | (simp; done) | (simp only [← hji15] <;> (first | rfl | simp)) | (simp [*]; done), by repeat (first | exact Drawn0.refl _ | apply Drawn0.step)⟩
      ·rw [if_neg c17] at H
       exact absurd H (by simp)
     ·rw [if_neg c16] at H
      exact absurd H (by simp)
    ·rw [if_neg c14] at H
     have c14b0 : decide (256 ≤ x0_1) = false := decide_eq_false c14
     clear c14
     obtain ⟨ji19, hji19⟩ : ∃ j_ : Int, ((x0_1) % 256) = j_ := ⟨_, rfl⟩
     replace H : (if 0 ≤ (ji19) then (if (ji19) < 256 then (some (wrap64 (x2_1 + (wrap64 (bt (⟨#[0, 1, 2, 2, 3, 3, 3, 3, 4, 4, 4, 4, 4, 4, 4, 4, 5, 5, 5, 5, 5, 5, 5, 5, 5, 5, 5, 5, 5, 5, 5, 5, 6, 6, 6, 6, 6, 6, 6, 6, 6, 6, 6, 6, 6, 6, 6, 6, 6, 6, 6, 6, 6, 6, 6, 6, 6, 6, 6, 6, 6, 6, 6, 6, 7, 7, 7, 7, 7, 7, 7, 7, 7, 7, 7, 7, 7, 7, 7, 7, 7, 7, 7, 7, 7, 7, 7, 7, 7, 7, 7, 7, 7, 7, 7, 7, 7, 7, 7, 7, 7, 7, 7, 7, 7, 7, 7, 7, 7, 7, 7, 7, 7, 7, 7, 7, 7, 7, 7, 7, 7, 7, 7, 7, 7, 7, 7, 7, 8, 8, 8, 8, 8, 8, 8, 8, 8, 8, 8, 8, 8, 8, 8, 8, 8, 8, 8, 8, 8, 8, 8, 8, 8, 8, 8, 8, 8, 8, 8, 8, 8, 8, 8, 8, 8, 8, 8, 8, 8, 8, 8, 8, 8, 8, 8, 8, 8, 8, 8, 8, 8, 8, 8, 8, 8, 8, 8, 8, 8, 8, 8, 8, 8, 8, 8, 8, 8, 8, 8, 8, 8, 8, 8, 8, 8, 8, 8, 8, 8, 8, 8, 8, 8, 8, 8, 8, 8, 8, 8, 8, 8, 8, 8, 8, 8, 8, 8, 8, 8, 8, 8, 8, 8, 8, 8, 8, 8, 8, 8, 8, 8, 8, 8, 8, 8, 8, 8, 8, 8, 8, 8, 8, 8, 8, 8, 8]⟩ : ByteArray) (ji19)))))) else (none)) else (none)) = some r := by first | (rw [hji19] at H; exact H) | (simp only [hji19] at H ⊢; exact H)
     by_cases c20 : 0 ≤ (ji19)
     ·rw [if_pos c20] at H
      have c20b0 : decide (0 ≤ (ji19)) = true := decide_eq_true c20
      clear c20
      by_cases c21 : (ji19) < 256
      ·rw [if_pos c21] at H
       have c21b0 : decide ((ji19) < 256) = true := decide_eq_true c21
       clear c21
       obtain rfl := Option.some.inj H
       have p22 : 0 ≤ ((ji19) : Int) := of_decide_eq_true (by first | (with_reducible assumption) | assumption)
       have q22 : (ji19) < (256 : Int) := of_decide_eq_true (by first | (with_reducible assumption) | assumption)
       have hx22 := bt_at (⟨#[0, 1, 2, 2, 3, 3, 3, 3, 4, 4, 4, 4, 4, 4, 4, 4, 5, 5, 5, 5, 5, 5, 5, 5, 5, 5, 5, 5, 5, 5, 5, 5, 6, 6, 6, 6, 6, 6, 6, 6, 6, 6, 6, 6, 6, 6, 6, 6, 6, 6, 6, 6, 6, 6, 6, 6, 6, 6, 6, 6, 6, 6, 6, 6, 7, 7, 7, 7, 7, 7, 7, 7, 7, 7, 7, 7, 7, 7, 7, 7, 7, 7, 7, 7, 7, 7, 7, 7, 7, 7, 7, 7, 7, 7, 7, 7, 7, 7, 7, 7, 7, 7, 7, 7, 7, 7, 7, 7, 7, 7, 7, 7, 7, 7, 7, 7, 7, 7, 7, 7, 7, 7, 7, 7, 7, 7, 7, 7, 8, 8, 8, 8, 8, 8, 8, 8, 8, 8, 8, 8, 8, 8, 8, 8, 8, 8, 8, 8, 8, 8, 8, 8, 8, 8, 8, 8, 8, 8, 8, 8, 8, 8, 8, 8, 8, 8, 8, 8, 8, 8, 8, 8, 8, 8, 8, 8, 8, 8, 8, 8, 8, 8, 8, 8, 8, 8, 8, 8, 8, 8, 8, 8, 8, 8, 8, 8, 8, 8, 8, 8, 8, 8, 8, 8, 8, 8, 8, 8, 8, 8, 8, 8, 8, 8, 8, 8, 8, 8, 8, 8, 8, 8, 8, 8, 8, 8, 8, 8, 8, 8, 8, 8, 8, 8, 8, 8, 8, 8, 8, 8, 8, 8, 8, 8, 8, 8, 8, 8, 8, 8, 8, 8, 8, 8, 8, 8]⟩ : ByteArray) (ji19)
       replace p22 := eq_true p22
       replace q22 := eq_true q22
       go_wp2
       go_ret
       exact ⟨by first | rfl | (simp; done) | (simp only [← hji19] <;> (first | rfl | simp)) | (simp [*]; done), by repeat (first | exact Drawn0.refl _ | apply Drawn0.step)⟩
      ·rw [if_neg c21] at H
       exact absurd H (by simp)
     ·rw [if_neg c20] at H
      exact absurd H (by simp)
/-! ### bits_Len: function 87 -/
def bits_Len.f (k : Nat) (a0 : Int) : Option (Int) := (bits_Len64.f k a0).bind fun t744 => (some t744)
theorem bits_Len.mono : ∀ a0 k, LeO (bits_Len.f k a0) (bits_Len.f (k + 1) a0) := by
 intro a0 k
 unfold bits_Len.f
 repeat' first
   | (with_reducible exact bits_Len64.mono _ _)
   | (with_reducible exact LeO.refl _)
   | (with_reducible exact LeO.none _)
   | (with_reducible refine LeO.ite ?_ ?_)
   | (with_reducible refine LeO.bind ?_ (fun _ => ?_))
   | exact bits_Len64.mono _ _
   | exact LeO.none _
   | refine LeO.ite ?_ ?_
   | refine LeO.bind ?_ (fun _ => ?_)
set_option maxHeartbeats 8000000 in
set_option maxRecDepth 100000 in
theorem bits_Len.calls (k : Nat) (a0 : Int) (r : Int) (w : World) (h : bits_Len.f k a0 = some r) :
  Calls Try.prog 87 #[.int .u64 a0] w fun e w' => e = .returned (.int .i64 r) ∧ Drawn0 w w' := by
 have H : ((bits_Len64.f k a0).bind fun t744 => (some t744)) = some r := h
 clear h
 replace H := Option.bind_eq_some_iff.mp H
 obtain ⟨t744, A20, H⟩ := H
 have A2 := Aside0.mk A20
 clear A20
 obtain rfl := Option.some.inj H
 go_enter Try.func87, Try.ntmps87
 go_wp2_with (first | ((with_reducible refine gate_callee (f := 106) rfl ?_); refine gL (some 7) Try.func106 #[.int .u64 a0] ?_; (with_reducible refine (bits_Len64.calls k a0 t744 _ A2.out).mono ?_); rintro e w' ⟨rfl, ⟨nd, rfl⟩⟩; refine ⟨_, rfl, ?_⟩))
 go_ret
 exact ⟨rS, rD⟩
/-! ### impl_Miller: function 40 -/
def impl_Miller.l0 : Nat → Int → Int → Int → Bool → Int → Int → Bool → Int → Int → Int → Int → Bool → Option (Int × Int)
 | 0, _, _, _, _, _, _, _, _, _, _, _, _ => none
 | k + 1, x7, x746000, x746001, x746002, x747000, x747001, x747002, x749000, x749001, x750000, x750001, x750002 => if x7 ≥ 0 then ((impl_TwoMul.f x749000 x749001 x749000 x749001).bind fun bt751 => ((impl_PairLine.f k x750000 x750001 x750002 x750000 x750001 x750002 x747000 x747001 x747002).bind fun bt753 => ((impl_TwoMul.f bt751.1 bt751.2 bt753.1 bt753.2).bind fun bt755 => ((impl_PointAdd.f k x750000 x750001 x750002 x750000 x750001 x750002).bind fun bt757 => (if 0 ≤ (IntKind.u64.wrap (x7)) then (if (Go.bits .and .i64 (shr .i64 1009 (IntKind.u64.wrap (x7))) 1) = 1 then ((impl_PairLine.f k bt757.1 bt757.2.1 bt757.2.2 x746000 x746001 x746002 x747000 x747001 x747002).bind fun bt760 => ((impl_TwoMul.f bt755.1 bt755.2 bt760.1 bt760.2).bind fun bt762 => ((impl_PointAdd.f k bt757.1 bt757.2.1 bt757.2.2 x746000 x746001 x746002).bind fun bt764 => (impl_Miller.l0 k (wrap64 (x7 - 1)) x746000 x746001 x746002 x747000 x747001 x747002 bt762.1 bt762.2 bt764.1 bt764.2.1 bt764.2.2)))) else (impl_Miller.l0 k (wrap64 (x7 - 1)) x746000 x746001 x746002 x747000 x747001 x747002 bt755.1 bt755.2 bt757.1 bt757.2.1 bt757.2.2)) else (none)))))) else (some (x749000, x749001))
def impl_Miller.f (k : Nat) (a0_0 : Int) (a0_1 : Int) (a0_2 : Bool) (a1_0 : Int) (a1_1 : Int) (a1_2 : Bool) : Option (Int × Int) := (bits_Len.f k 1009).bind fun t750 => (impl_Miller.l0 k (wrap64 (t750 - 2)) a0_0 a0_1 a0_2 a1_0 a1_1 a1_2 1 0 a0_0 a0_1 a0_2)
theorem impl_Miller.mono_l : ∀ k, (∀ y0 y1 y2 y3 y4 y5 y6 y7 y8 y9 y10 y11, LeO (impl_Miller.l0 k y0 y1 y2 y3 y4 y5 y6 y7 y8 y9 y10 y11) (impl_Miller.l0 (k + 1) y0 y1 y2 y3 y4 y5 y6 y7 y8 y9 y10 y11))
 | 0 => fun _ _ _ _ _ _ _ _ _ _ _ _ r h => by simp [impl_Miller.l0] at h
 | k + 1 => by
  have ih0 := impl_Miller.mono_l k
  ·intro y0 y1 y2 y3 y4 y5 y6 y7 y8 y9 y10 y11
   unfold impl_Miller.l0
   repeat' first
   | (with_reducible exact ih0 _ _ _ _ _ _ _ _ _ _ _ _)
   | (with_reducible exact bits_Len.mono _ _)
   | (with_reducible exact impl_PairLine.mono _ _ _ _ _ _ _ _ _ _)
   | (with_reducible exact impl_PointAdd.mono _ _ _ _ _ _ _)
   | (with_reducible exact LeO.refl _)
   | (with_reducible exact LeO.none _)
   | (with_reducible refine LeO.ite ?_ ?_)
   | (with_reducible refine LeO.bind ?_ (fun _ => ?_))
   | exact ih0 _ _ _ _ _ _ _ _ _ _ _ _
   | exact bits_Len.mono _ _
   | exact impl_PairLine.mono _ _ _ _ _ _ _ _ _ _
   | exact impl_PointAdd.mono _ _ _ _ _ _ _
   | exact LeO.none _
   | refine LeO.ite ?_ ?_
   | refine LeO.bind ?_ (fun _ => ?_)
theorem impl_Miller.mono : ∀ a0 a1 a2 a3 a4 a5 k, LeO (impl_Miller.f k a0 a1 a2 a3 a4 a5) (impl_Miller.f (k + 1) a0 a1 a2 a3 a4 a5) := by
 intro a0 a1 a2 a3 a4 a5 k
 have ih0 := impl_Miller.mono_l k
 unfold impl_Miller.f
 repeat' first
   | (with_reducible exact ih0 _ _ _ _ _ _ _ _ _ _ _ _)
   | (with_reducible exact bits_Len.mono _ _)
   | (with_reducible exact impl_PairLine.mono _ _ _ _ _ _ _ _ _ _)
   | (with_reducible exact impl_PointAdd.mono _ _ _ _ _ _ _)
   | (with_reducible exact LeO.refl _)
   | (with_reducible exact LeO.none _)
   | (with_reducible refine LeO.ite ?_ ?_)
   | (with_reducible refine LeO.bind ?_ (fun _ => ?_))
   | exact ih0 _ _ _ _ _ _ _ _ _ _ _ _
   | exact bits_Len.mono _ _
   | exact impl_PairLine.mono _ _ _ _ _ _ _ _ _ _
   | exact impl_PointAdd.mono _ _ _ _ _ _ _
   | exact LeO.none _
   | refine LeO.ite ?_ ?_
   | refine LeO.bind ?_ (fun _ => ?_)
def impl_Miller.T6 : Bool × List (List Nat × List Nat) := (true, [([], []), ([], []), ([0, 1], [0, 1]), ([], []), ([], []), ([], []), ([3, 4, 5, 2], [3, 4, 5]), ([2, 6, 6], [2, 6]), ([7, 7, 0, 1, 2, 3, 4, 5, 6, 7], [7])])
def impl_Miller.B6 : List Nat := [0, 0, 3, 0, 0, 0, 63, 127, 255]
theorem impl_Miller.tab6 : rtab .any (opsOf Try.f40 6) = impl_Miller.T6 := by kernel_rfl
theorem impl_Miller.bits6 : waitsOk impl_Miller.T6.2 impl_Miller.B6 = true := by kernel_rfl
set_option maxHeartbeats 8000000 in
set_option maxRecDepth 100000 in
theorem impl_Miller.calls (k : Nat) (a0_0 : Int) (a0_1 : Int) (a0_2 : Bool) (a1_0 : Int) (a1_1 : Int) (a1_2 : Bool) (r1 : Int) (r2 : Int) (w : World) (h : impl_Miller.f k a0_0 a0_1 a0_2 a1_0 a1_1 a1_2 = some (r1, r2)) :
  Calls Try.prog 40 #[.agg #[.int .i64 a0_0, .int .i64 a0_1, .bool a0_2], .agg #[.int .i64 a1_0, .int .i64 a1_1, .bool a1_2]] w fun e w' => e = .returned (.agg #[.int .i64 r1, .int .i64 r2]) ∧ Below w.heap.size w w' := by
 have hu25 := Try.underlying25
 have hu31 := Try.underlying31
 have HB := Aside0.mk (Below.refl w.heap.size w)
 have H : ((bits_Len.f k 1009).bind fun t750 => (impl_Miller.l0 k (wrap64 (t750 - 2)) a0_0 a0_1 a0_2 a1_0 a1_1 a1_2 1 0 a0_0 a0_1 a0_2)) = some (r1, r2) := h
 clear h
 replace H := Option.bind_eq_some_iff.mp H
 obtain ⟨t750, A30, H⟩ := H
 have A3 := Aside0.mk A30
 clear A30
 have H' := Aside0.mk H
 clear H
 go_enter Try.func40, Try.ntmps40
 go_wp2_with (first | ((with_reducible refine gate_dst (N := 2) rfl ?_); refine bE 2 #[.int .i64 a0_0, .int .i64 a0_1, .bool a0_2] 25 ?_; intro gb745 hg w4 hbox hb; have BK745 := Aside0.mk (hbox); have GW745 := bG HB hg; have GE745 := bG HB hg; replace HB := bS HB hb; clear hb hbox hg) | ((with_reducible refine gate_dst (N := 3) rfl ?_); refine bE 3 #[.int .i64 a1_0, .int .i64 a1_1, .bool a1_2] 25 ?_; intro gb746 hg w5 hbox hb; have BK746 := Aside0.mk (hbox); have GW746 := bG HB hg; have GE746 := bG HB hg; replace HB := bS HB hb; have NB745_746 := bL BK745 hg; have NB746_745 := bR BK745 hg; replace BK745 := bB BK745 hb; clear hb hbox hg) | ((with_reducible refine gate_dst (N := 4) rfl ?_); refine bE 4 #[.int .i64 0, .int .i64 0] 31 ?_; intro gb747 hg w6 hbox hb; have BK747 := Aside0.mk (hbox); have GW747 := bG HB hg; have GE747 := bG HB hg; replace HB := bS HB hb; have NB745_747 := bL BK745 hg; have NB747_745 := bR BK745 hg; replace BK745 := bB BK745 hb; have NB746_747 := bL BK746 hg; have NB747_746 := bR BK746 hg; replace BK746 := bB BK746 hb; clear hb hbox hg) | ((with_reducible refine gate_dst (N := 5) rfl ?_); refine bE 5 #[.int .i64 0, .int .i64 0] 31 ?_; intro gb748 hg w7 hbox hb; have BK748 := Aside0.mk (hbox); have GW748 := bG HB hg; have GE748 := bG HB hg; replace HB := bS HB hb; have NB745_748 := bL BK745 hg; have NB748_745 := bR BK745 hg; replace BK745 := bB BK745 hb; have NB746_748 := bL BK746 hg; have NB748_746 := bR BK746 hg; replace BK746 := bB BK746 hb; have NB747_748 := bL BK747 hg; have NB748_747 := bR BK747 hg; replace BK747 := bB BK747 hb; clear hb hbox hg; obtain ⟨hnb8, hnc8⟩ := nB NB748_745; obtain ⟨hnb9, hnc9⟩ := nB NB748_746; obtain ⟨hnb10, hnc10⟩ := nB NB748_747; obtain ⟨hcz11_0, hcz11_1, hfz11_0, hfz11_1⟩ := bK2 (w := w7) BK748; obtain ⟨hnb12, hnc12⟩ := nB NB745_746; obtain ⟨hnb13, hnc13⟩ := nB NB745_747; obtain ⟨hcz14_0, hcz14_1, hcz14_2, hfz14_0, hfz14_1, hfz14_2⟩ := bK3 (w := w7) BK745) | ((with_reducible refine gate_dst (N := 6) rfl ?_); refine bE 6 #[.int .i64 0, .int .i64 0, .bool false] 25 ?_; intro gb749 hg w15 hbox hb; have BK749 := Aside0.mk (hbox); have GW749 := bG HB hg; have GE749 := bG HB hg; replace HB := bS HB hb; have NB745_749 := bL BK745 hg; have NB749_745 := bR BK745 hg; replace BK745 := bB BK745 hb; have NB746_749 := bL BK746 hg; have NB749_746 := bR BK746 hg; replace BK746 := bB BK746 hb; have NB747_749 := bL BK747 hg; have NB749_747 := bR BK747 hg; replace BK747 := bB BK747 hb; have NB748_749 := Aside0.mk ((by rw [hg]; exact Nat.ne_of_lt (blk_lt (g := gb748) (o := .cells #[.int .i64 1, .int .i64 0] 31 (0, 0)) (bU BK748)) : gb748 ≠ gb749)); have NB749_748 := Aside0.mk ((by rw [hg]; exact Nat.ne_of_gt (blk_lt (g := gb748) (o := .cells #[.int .i64 1, .int .i64 0] 31 (0, 0)) (bU BK748)) : gb749 ≠ gb748)); replace BK748 := bV 31 #[.int .i64 1, .int .i64 0] BK748 hb; clear hb hbox hg; obtain ⟨hnb16, hnc16⟩ := nB NB749_745; obtain ⟨hnb17, hnc17⟩ := nB NB749_746; obtain ⟨hnb18, hnc18⟩ := nB NB749_747; obtain ⟨hnb19, hnc19⟩ := nB NB749_748; obtain ⟨hcz20_0, hcz20_1, hcz20_2, hfz20_0, hfz20_1, hfz20_2⟩ := bK3 (w := w15) BK749) | ((with_reducible refine gate_callee (f := 87) rfl ?_); refine gL (some 10) Try.func87 #[.int .u64 1009] ?_; (with_reducible refine (bits_Len.calls k 1009 t750 _ A3.out).mono ?_); rintro e w' ⟨rfl, ⟨nd, rfl⟩⟩; refine ⟨_, rfl, ?_⟩))
 go_loopg [7] k (fun kq v7 w' => ∃ (x7_1 : Int) (x749000_1 : Int) (x749001_1 : Int) (x750000_1 : Int) (x750001_1 : Int) (x750002_1 : Bool), v7 = .int .i64 x7_1 ∧ Aside0 (impl_Miller.l0 kq x7_1 a0_0 a0_1 a0_2 a1_0 a1_1 a1_2 x749000_1 x749001_1 x750000_1 x750001_1 x750002_1 = some (r1, r2)) ∧ Aside0 (kq ≤ k) ∧ Aside0 (w'.heap[gb745]? = some (.cells #[.int .i64 a0_0, .int .i64 a0_1, .bool a0_2] 25 (0, 0))) ∧ Aside0 (w'.heap[gb746]? = some (.cells #[.int .i64 a1_0, .int .i64 a1_1, .bool a1_2] 25 (0, 0))) ∧ Aside0 (w'.heap[gb747]? = some (.cells #[.int .i64 0, .int .i64 0] 31 (0, 0))) ∧ Aside0 (w'.heap[gb748]? = some (.cells #[.int .i64 x749000_1, .int .i64 x749001_1] 31 (0, 0))) ∧ Aside0 (w'.heap[gb749]? = some (.cells #[.int .i64 x750000_1, .int .i64 x750001_1, .bool x750002_1] 25 (0, 0))) ∧ Aside0 (Below w.heap.size w w'))
 case atStart => exact ⟨(wrap64 (t750 - 2)), (1), (0), (a0_0), (a0_1), (a0_2), rS, H', ⟨Nat.le_refl _⟩, ⟨bP BK745⟩, ⟨bP BK746⟩, ⟨bP BK747⟩, ⟨bP BK748⟩, ⟨bU BK749⟩, ⟨bZ HB⟩⟩
 case round =>
  clear H'
  try clear c1
  try clear p2
  try clear c4
  try clear p6
  try clear c8
  try clear c9
  try clear c10
  try clear c12
  try clear c13
  try clear c16
  try clear c17
  try clear c18
  try clear c19
  try clear hcz11_0
  try clear hcz11_1
  try clear hcz14_0
  try clear hcz14_1
  try clear hcz14_2
  try clear hcz20_0
  try clear hcz20_1
  try clear hcz20_2
  try clear hfz11_0
  try clear hfz11_1
  try clear hfz14_0
  try clear hfz14_1
  try clear hfz14_2
  try clear hfz20_0
  try clear hfz20_1
  try clear hfz20_2
  obtain ⟨x7_1, x749000_1, x749001_1, x750000_1, x750001_1, x750002_1, rfl, HA, HK1, BK745, BK746, BK747, BK748, BK749, HB⟩ := hrel
  cases gk with
  | zero => exact absurd HA.out (by simp [impl_Miller.l0])
  | succ k1 =>
   have H := HA.out
   clear HA
   simp only [impl_Miller.l0] at H
   by_cases c21 : x7_1 ≥ 0
   ·rw [if_pos c21] at H
    have c21b0 : decide (0 ≤ x7_1) = true := decide_eq_true c21
    clear c21
    replace H := Option.bind_eq_some_iff.mp H
    obtain ⟨⟨t751, t752⟩, A220, H⟩ := H
    have A22 := Aside0.mk A220
    clear A220
    replace H := Option.bind_eq_some_iff.mp H
    obtain ⟨⟨t753, t754⟩, A230, H⟩ := H
    have A23 := Aside0.mk A230
    clear A230
    replace H := Option.bind_eq_some_iff.mp H
    obtain ⟨⟨t755, t756⟩, A240, H⟩ := H
    have A24 := Aside0.mk A240
    clear A240
    replace H := Option.bind_eq_some_iff.mp H
    obtain ⟨⟨t757, t758, t759⟩, A250, H⟩ := H
    have A25 := Aside0.mk A250
    clear A250
    obtain ⟨ji26, hji26⟩ : ∃ j_ : Int, (IntKind.u64.wrap (x7_1)) = j_ := ⟨_, rfl⟩
    replace H : (if 0 ≤ (ji26) then (if (Go.bits .and .i64 (shr .i64 1009 (ji26)) 1) = 1 then ((impl_PairLine.f k1 t757 t758 t759 a0_0 a0_1 a0_2 a1_0 a1_1 a1_2).bind fun bt760 => ((impl_TwoMul.f t755 t756 bt760.1 bt760.2).bind fun bt762 => ((impl_PointAdd.f k1 t757 t758 t759 a0_0 a0_1 a0_2).bind fun bt764 => (impl_Miller.l0 k1 (wrap64 (x7_1 - 1)) a0_0 a0_1 a0_2 a1_0 a1_1 a1_2 bt762.1 bt762.2 bt764.1 bt764.2.1 bt764.2.2)))) else (impl_Miller.l0 k1 (wrap64 (x7_1 - 1)) a0_0 a0_1 a0_2 a1_0 a1_1 a1_2 t755 t756 t757 t758 t759)) else (none)) = some (r1, r2) := by first | (rw [hji26] at H; exact H) | (simp only [hji26] at H ⊢; exact H)
    (try rw [hji26] at A22)
    (try rw [hji26] at A23)
    (try rw [hji26] at A24)
    (try rw [hji26] at A25)
    by_cases c27 : 0 ≤ (ji26)
    ·rw [if_pos c27] at H
     have c27b0 := eq_true c27
     have c27b1 : decide (0 ≤ (ji26)) = true := decide_eq_true c27
     clear c27
     obtain ⟨ji28, hji28⟩ : ∃ j_ : Int, (shr .i64 1009 (ji26)) = j_ := ⟨_, rfl⟩
     replace H : (if (Go.bits .and .i64 (ji28) 1) = 1 then ((impl_PairLine.f k1 t757 t758 t759 a0_0 a0_1 a0_2 a1_0 a1_1 a1_2).bind fun bt760 => ((impl_TwoMul.f t755 t756 bt760.1 bt760.2).bind fun bt762 => ((impl_PointAdd.f k1 t757 t758 t759 a0_0 a0_1 a0_2).bind fun bt764 => (impl_Miller.l0 k1 (wrap64 (x7_1 - 1)) a0_0 a0_1 a0_2 a1_0 a1_1 a1_2 bt762.1 bt762.2 bt764.1 bt764.2.1 bt764.2.2)))) else (impl_Miller.l0 k1 (wrap64 (x7_1 - 1)) a0_0 a0_1 a0_2 a1_0 a1_1 a1_2 t755 t756 t757 t758 t759)) = some (r1, r2) := by first | (rw [hji28] at H; exact H) | (simp only [hji28] at H ⊢; exact H)
     (try rw [hji28] at A22)
     (try rw [hji28] at A23)
     (try rw [hji28] at A24)
     (try rw [hji28] at A25)
     have hji28_ : (1009 / 2 ^ min (ji26).toNat 64) = ji28 := hji28
     have hji28z : (ji26) ≤ 64 → (1009 / 2 ^ (ji26).toNat) = ji28 := shr_small hji28
     have hji28t : ∀ m_ : Int, Int.tmod ji28 m_ = ji28 % m_ := fun m_ => Int.tmod_eq_emod_of_nonneg (by rw [← hji28_]; exact Int.ediv_nonneg (by decide) (Int.le_of_lt (Int.pow_pos (by decide))))
     by_cases c29 : (Go.bits .and .i64 (ji28) 1) = 1
     ·rw [if_pos c29] at H
      have c29b0 : ((Go.bits .and .i64 (ji28) 1) == 1) = true := beq_iff_eq.mpr c29
      have c29b1 : ((Go.bits .and .i64 (ji28) 1) != 1) = false := bne_eq_false_iff_eq.mpr c29
      clear c29
      replace H := Option.bind_eq_some_iff.mp H
      obtain ⟨⟨t760, t761⟩, A300, H⟩ := H
      have A30 := Aside0.mk A300
      clear A300
      replace H := Option.bind_eq_some_iff.mp H
      obtain ⟨⟨t762, t763⟩, A310, H⟩ := H
      have A31 := Aside0.mk A310
      clear A310
      replace H := Option.bind_eq_some_iff.mp H
      obtain ⟨⟨t764, t765, t766⟩, A320, H⟩ := H
      have A32 := Aside0.mk A320
      clear A320
      have H' := Aside0.mk H
      clear H
      try go_wp2
      replace BK745 := Aside0.mk (blk_drew BK745.out)
      replace BK746 := Aside0.mk (blk_drew BK746.out)
      replace BK747 := Aside0.mk (blk_drew BK747.out)
      replace BK748 := Aside0.mk (blk_drew BK748.out)
      replace BK749 := Aside0.mk (blk_drew BK749.out)
      replace HB := Aside0.mk (below_drew1 HB.out)
      refine start_ (n := 9) (S := fun w' => SP2 w' gb748 (.int .i64 x749000_1) (.int .i64 x749001_1) (SP3 w' gb749 (.int .i64 x750000_1) (.int .i64 x750001_1) (.bool x750002_1) (SQ3 w' gb746 (.int .i64 a1_0) (.int .i64 a1_1) (.bool a1_2)))) (ds := [8]) #[false, false, false, false, false, false, false, false, false] (by kernel_rfl) rfl rfl (bS2 BK748 (bS3 BK749 (bT3 BK746))) (fun hHeld => ?_); refine with_tabW impl_Miller.tab6 impl_Miller.bits6 (fun HT_ HW_ => ?_)
      generalize wr.drew = w33 at BK745 BK746 BK747 BK748 BK749 HB hHeld ⊢
      refine tI8 0 (some 16) HT_.out HW_.out hHeld ?_
      refine tI8 1 (some 17) HT_.out HW_.out hHeld ?_
      refine tI8 3 (some 19) HT_.out HW_.out hHeld ?_
      refine tI8 4 (some 20) HT_.out HW_.out hHeld ?_
      refine tI8 5 (some 21) HT_.out HW_.out hHeld ?_
      refine oI 2 (some 18) HT_.out (fun K hK => ?_)
      refine gO Try.func21 #[.agg #[.int .i64 x749000_1, .int .i64 x749001_1], .agg #[.int .i64 x749000_1, .int .i64 x749001_1]] ?_
      with_reducible refine (impl_TwoMul.calls x749000_1 x749001_1 x749000_1 x749001_1 t751 t752 _ A22.out).mono ?_
      rintro e w34 ⟨rfl, hb⟩
      refine ⟨_, rfl, ?_⟩
      replace BK745 := bB BK745 hb
      replace BK746 := bB BK746 hb
      replace BK747 := bB BK747 hb
      replace BK748 := bB BK748 hb
      replace BK749 := bB BK749 hb
      replace HB := bS HB hb
      (try clear hb)
      refine hK.out _ _ (bS2 BK748 (bS3 BK749 (bT3 BK746))) (fun hHeld => ?_)
      clear hK K
      refine nO (some 18) ?_
      refine oI 6 (some 22) HT_.out (fun K hK => ?_)
      refine gO Try.func25 #[.agg #[.int .i64 x750000_1, .int .i64 x750001_1, .bool x750002_1], .agg #[.int .i64 x750000_1, .int .i64 x750001_1, .bool x750002_1], .agg #[.int .i64 a1_0, .int .i64 a1_1, .bool a1_2]] ?_
      with_reducible refine (impl_PairLine.calls k1 x750000_1 x750001_1 x750002_1 x750000_1 x750001_1 x750002_1 a1_0 a1_1 a1_2 t753 t754 _ A23.out).mono ?_
      rintro e w35 ⟨rfl, hb⟩
      refine ⟨_, rfl, ?_⟩
      replace BK745 := bB BK745 hb
      replace BK746 := bB BK746 hb
      replace BK747 := bB BK747 hb
      replace BK748 := bB BK748 hb
      replace BK749 := bB BK749 hb
      replace HB := bS HB hb
      (try clear hb)
      refine hK.out _ _ (bS2 BK748 (bS3 BK749 (bT3 BK746))) (fun hHeld => ?_)
      clear hK K
      refine nO (some 22) ?_
      refine oI 7 (some 23) HT_.out (fun K hK => ?_)
      refine gO Try.func21 #[.agg #[.int .i64 t751, .int .i64 t752], .agg #[.int .i64 t753, .int .i64 t754]] ?_
      with_reducible refine (impl_TwoMul.calls t751 t752 t753 t754 t755 t756 _ A24.out).mono ?_
      rintro e w36 ⟨rfl, hb⟩
      refine ⟨_, rfl, ?_⟩
      replace BK745 := bB BK745 hb
      replace BK746 := bB BK746 hb
      replace BK747 := bB BK747 hb
      replace BK748 := bB BK748 hb
      replace BK749 := bB BK749 hb
      replace HB := bS HB hb
      (try clear hb)
      refine hK.out _ _ (bS2 BK748 (bS3 BK749 (bT3 BK746))) (fun hHeld => ?_)
      clear hK K
      refine nO (some 23) ?_
      refine last_ (i := 8) (N := none) #[true, true, true, true, true, true, true, true, true] rfl rfl (one_of HT_.out (by kernel_rfl)) (by decide) (fun K hK => ?_)
      have hs37 : w36.cell? ⟨gb748, 0, none⟩ = some (.int .i64 x749000_1) := bc BK748 0
      have hfs37 := blk_frozen BK748.out 0
      have hns37_0 := NB745_748.out
      have hns37_1 := NB746_748.out
      have hns37_2 := NB747_748.out
      have hns37_4 := NB749_748.out
      have hms37_0 := NB748_745.out
      have hms37_1 := NB748_746.out
      have hms37_2 := NB748_747.out
      have hms37_4 := NB748_749.out
      have hs38 : w36.cell? ⟨gb748, 1, none⟩ = some (.int .i64 x749001_1) := bc BK748 1
      have hfs38 := blk_frozen BK748.out 1
      have hns38_0 := NB745_748.out
      have hns38_1 := NB746_748.out
      have hns38_2 := NB747_748.out
      have hns38_4 := NB749_748.out
      have hms38_0 := NB748_745.out
      have hms38_1 := NB748_746.out
      have hms38_2 := NB748_747.out
      have hms38_4 := NB748_749.out
      refine skip_ (w1 := ?_) (by rfl) rfl ?_ ?_
      rotate_left
      ·go_simp
       rfl
      refine hK.out _ _ ?_
      clear hK K
      refine done_ (done_of HT_.out (by kernel_rfl)) ?_
      obtain ⟨hnb39, hnc39⟩ := nB NB749_745
      obtain ⟨hnb40, hnc40⟩ := nB NB749_746
      obtain ⟨hnb41, hnc41⟩ := nB NB749_747
      obtain ⟨hnb42, hnc42⟩ := nB NB749_748
      obtain ⟨hcz43_0, hcz43_1, hcz43_2, hfz43_0, hfz43_1, hfz43_2⟩ := bK3 (w := w36) BK749
      try go_wp2_with (first | ((with_reducible refine gate_callee (f := 19) rfl ?_); refine gL (some 26) Try.func19 #[.agg #[.int .i64 x750000_1, .int .i64 x750001_1, .bool x750002_1], .agg #[.int .i64 x750000_1, .int .i64 x750001_1, .bool x750002_1]] ?_; (with_reducible refine (impl_PointAdd.calls k1 x750000_1 x750001_1 x750002_1 x750000_1 x750001_1 x750002_1 t757 t758 t759 _ A25.out).mono ?_); rintro e w44 ⟨rfl, hb⟩; refine ⟨_, rfl, ?_⟩; replace BK745 := bB BK745 hb; replace BK746 := bB BK746 hb; replace BK747 := bB BK747 hb; replace BK748 := bV 31 #[.int .i64 t755, .int .i64 t756] BK748 hb; replace BK749 := bB BK749 hb; replace HB := bS HB hb; (try clear hb); obtain ⟨hcz45_0, hcz45_1, hcz45_2, hfz45_0, hfz45_1, hfz45_2⟩ := bK3 (w := w44) BK749))
      obtain ⟨w46, hW_⟩ : ∃ W_ : World, W_ = (((w44.setCell ⟨gb749, 0, none⟩ (.int .i64 t757)).setCell ⟨gb749, 1, none⟩ (.int .i64 t758)).setCell ⟨gb749, 2, none⟩ (.bool t759)) := ⟨_, rfl⟩
      replace BK745 := bW hW_ BK745
      replace BK746 := bW hW_ BK746
      replace BK747 := bW hW_ BK747
      replace BK748 := bW hW_ BK748
      replace BK749 := bX hW_ 25 #[.int .i64 t757, .int .i64 t758, .bool t759] BK749
      replace HB := zW hW_ HB
      rw [← hW_]
      clear hW_
      replace BK745 := Aside0.mk (blk_drew BK745.out)
      replace BK746 := Aside0.mk (blk_drew BK746.out)
      replace BK747 := Aside0.mk (blk_drew BK747.out)
      replace BK748 := Aside0.mk (blk_drew BK748.out)
      replace BK749 := Aside0.mk (blk_drew BK749.out)
      replace HB := Aside0.mk (below_drew1 HB.out)
      refine start_ (n := 7) (S := fun w' => SP2 w' gb748 (.int .i64 t755) (.int .i64 t756) (SP3 w' gb749 (.int .i64 t757) (.int .i64 t758) (.bool t759) (SP3 w' gb745 (.int .i64 a0_0) (.int .i64 a0_1) (.bool a0_2) (SQ3 w' gb746 (.int .i64 a1_0) (.int .i64 a1_1) (.bool a1_2))))) (ds := [6]) #[false, false, false, false, false, false, false] (by kernel_rfl) rfl rfl (bS2 BK748 (bS3 BK749 (bS3 BK745 (bT3 BK746)))) (fun hHeld => ?_)
      generalize w46.drew = w47 at BK745 BK746 BK747 BK748 BK749 HB hHeld ⊢
      refine take_ (i := 0) (N := some 32) (v := ?_) (a' := ?_) #[true, false, false, false, false, false, false] rfl rfl (by kernel_rfl) (fun _ _ _ h => h) (Or.inl ⟨by rfl, ?_⟩) hHeld ?_ ?_
      rotate_left
      ·rintro w' ⟨s0, s1, s2, s3, s4, s5, s6, s7, s8, s9, s10⟩
       go_simp
       with_reducible rfl
      rotate_left
      ·simp only [Act.put, List.setIfInBounds_toArray, List.set_cons_zero, List.set_cons_succ, i64_w, i32_w]
       rfl
      refine take_ (i := 1) (N := some 33) (v := ?_) (a' := ?_) #[true, true, false, false, false, false, false] rfl rfl (by kernel_rfl) (fun _ _ _ h => h) (Or.inl ⟨by rfl, ?_⟩) hHeld ?_ ?_
      rotate_left
      ·rintro w' ⟨s0, s1, s2, s3, s4, s5, s6, s7, s8, s9, s10⟩
       go_simp
       with_reducible rfl
      rotate_left
      ·simp only [Act.put, List.setIfInBounds_toArray, List.set_cons_zero, List.set_cons_succ, i64_w, i32_w]
       rfl
      refine take_ (i := 2) (N := some 34) (v := ?_) (a' := ?_) #[true, true, true, false, false, false, false] rfl rfl (by kernel_rfl) (fun _ _ _ h => h) (Or.inl ⟨by rfl, ?_⟩) hHeld ?_ ?_
      rotate_left
      ·rintro w' ⟨s0, s1, s2, s3, s4, s5, s6, s7, s8, s9, s10⟩
       go_simp
       with_reducible rfl
      rotate_left
      ·simp only [Act.put, List.setIfInBounds_toArray, List.set_cons_zero, List.set_cons_succ, i64_w, i32_w]
       rfl
      refine take_ (i := 3) (N := some 35) (v := ?_) (a' := ?_) #[true, true, true, true, false, false, false] rfl rfl (by kernel_rfl) (fun _ _ _ h => h) (Or.inl ⟨by rfl, ?_⟩) hHeld ?_ ?_
      rotate_left
      ·rintro w' ⟨s0, s1, s2, s3, s4, s5, s6, s7, s8, s9, s10⟩
       go_simp
       with_reducible rfl
      rotate_left
      ·simp only [Act.put, List.setIfInBounds_toArray, List.set_cons_zero, List.set_cons_succ, i64_w, i32_w]
       rfl
      refine one_ (i := 4) (N := some 36) #[true, true, true, true, true, false, false] rfl rfl (by kernel_rfl) (by decide) (fun K hK => ?_)
      refine gO Try.func25 #[.agg #[.int .i64 t757, .int .i64 t758, .bool t759], .agg #[.int .i64 a0_0, .int .i64 a0_1, .bool a0_2], .agg #[.int .i64 a1_0, .int .i64 a1_1, .bool a1_2]] ?_
      with_reducible refine (impl_PairLine.calls k1 t757 t758 t759 a0_0 a0_1 a0_2 a1_0 a1_1 a1_2 t760 t761 _ A30.out).mono ?_
      rintro e w48 ⟨rfl, hb⟩
      refine ⟨_, rfl, ?_⟩
      replace BK745 := bB BK745 hb
      replace BK746 := bB BK746 hb
      replace BK747 := bB BK747 hb
      replace BK748 := bB BK748 hb
      replace BK749 := bB BK749 hb
      replace HB := bS HB hb
      (try clear hb)
      refine hK.out _ _ (bS2 BK748 (bS3 BK749 (bS3 BK745 (bT3 BK746)))) (fun hHeld => ?_)
      clear hK K
      refine nO (some 36) ?_
      refine one_ (i := 5) (N := some 37) #[true, true, true, true, true, true, false] rfl rfl (by kernel_rfl) (by decide) (fun K hK => ?_)
      refine gO Try.func21 #[.agg #[.int .i64 t755, .int .i64 t756], .agg #[.int .i64 t760, .int .i64 t761]] ?_
      with_reducible refine (impl_TwoMul.calls t755 t756 t760 t761 t762 t763 _ A31.out).mono ?_
      rintro e w49 ⟨rfl, hb⟩
      refine ⟨_, rfl, ?_⟩
      replace BK745 := bB BK745 hb
      replace BK746 := bB BK746 hb
      replace BK747 := bB BK747 hb
      replace BK748 := bB BK748 hb
      replace BK749 := bB BK749 hb
      replace HB := bS HB hb
      (try clear hb)
      refine hK.out _ _ (bS2 BK748 (bS3 BK749 (bS3 BK745 (bT3 BK746)))) (fun hHeld => ?_)
      clear hK K
      refine nO (some 37) ?_
      refine last_ (i := 6) (N := none) #[true, true, true, true, true, true, true] rfl rfl (by kernel_rfl) (by decide) (fun K hK => ?_)
      have hs50 : w49.cell? ⟨gb748, 0, none⟩ = some (.int .i64 t755) := bc BK748 0
      have hfs50 := blk_frozen BK748.out 0
      have hns50_0 := NB745_748.out
      have hns50_1 := NB746_748.out
      have hns50_2 := NB747_748.out
      have hns50_4 := NB749_748.out
      have hms50_0 := NB748_745.out
      have hms50_1 := NB748_746.out
      have hms50_2 := NB748_747.out
      have hms50_4 := NB748_749.out
      have hs51 : w49.cell? ⟨gb748, 1, none⟩ = some (.int .i64 t756) := bc BK748 1
      have hfs51 := blk_frozen BK748.out 1
      have hns51_0 := NB745_748.out
      have hns51_1 := NB746_748.out
      have hns51_2 := NB747_748.out
      have hns51_4 := NB749_748.out
      have hms51_0 := NB748_745.out
      have hms51_1 := NB748_746.out
      have hms51_2 := NB748_747.out
      have hms51_4 := NB748_749.out
      refine skip_ (w1 := ?_) (by rfl) rfl ?_ ?_
      rotate_left
      ·go_simp
       rfl
      refine hK.out _ _ ?_
      clear hK K
      refine done_ (by kernel_rfl) ?_
      obtain ⟨hcz52_0, hcz52_1, hcz52_2, hfz52_0, hfz52_1, hfz52_2⟩ := bK3 (w := w49) BK749
      obtain ⟨hnb53, hnc53⟩ := nB NB745_746
      obtain ⟨hnb54, hnc54⟩ := nB NB745_747
      obtain ⟨hnb55, hnc55⟩ := nB NB745_748
      obtain ⟨hcz56_0, hcz56_1, hcz56_2, hfz56_0, hfz56_1, hfz56_2⟩ := bK3 (w := w49) BK745
      try go_wp2_with (first | ((with_reducible refine gate_callee (f := 19) rfl ?_); refine gL (some 40) Try.func19 #[.agg #[.int .i64 t757, .int .i64 t758, .bool t759], .agg #[.int .i64 a0_0, .int .i64 a0_1, .bool a0_2]] ?_; (with_reducible refine (impl_PointAdd.calls k1 t757 t758 t759 a0_0 a0_1 a0_2 t764 t765 t766 _ A32.out).mono ?_); rintro e w57 ⟨rfl, hb⟩; refine ⟨_, rfl, ?_⟩; replace BK745 := bB BK745 hb; replace BK746 := bB BK746 hb; replace BK747 := bB BK747 hb; replace BK748 := bV 31 #[.int .i64 t762, .int .i64 t763] BK748 hb; replace BK749 := bB BK749 hb; replace HB := bS HB hb; (try clear hb); obtain ⟨hcz58_0, hcz58_1, hcz58_2, hfz58_0, hfz58_1, hfz58_2⟩ := bK3 (w := w57) BK749))
      go_roundg k1
      case measure => have := HK1.out; omega
      case rel => exact ⟨(wrap64 (x7_1 - 1)), (t762), (t763), (t764), (t765), (t766), rS, H', ⟨by have := HK1.out; omega⟩, ⟨bP BK745⟩, ⟨bP BK746⟩, ⟨bP BK747⟩, ⟨bP BK748⟩, ⟨bU BK749⟩, ⟨bZ HB⟩⟩
     ·rw [if_neg c29] at H
      have c29b0 : ((Go.bits .and .i64 (ji28) 1) == 1) = false := beq_eq_false_iff_ne.mpr c29
      have c29b1 : ((Go.bits .and .i64 (ji28) 1) != 1) = true := bne_iff_ne.mpr c29
      have H' := Aside0.mk H
      clear H
      try go_wp2
      replace BK745 := Aside0.mk (blk_drew BK745.out)
      replace BK746 := Aside0.mk (blk_drew BK746.out)
      replace BK747 := Aside0.mk (blk_drew BK747.out)
      replace BK748 := Aside0.mk (blk_drew BK748.out)
      replace BK749 := Aside0.mk (blk_drew BK749.out)
      replace HB := Aside0.mk (below_drew1 HB.out)
      refine start_ (n := 9) (S := fun w' => SP2 w' gb748 (.int .i64 x749000_1) (.int .i64 x749001_1) (SP3 w' gb749 (.int .i64 x750000_1) (.int .i64 x750001_1) (.bool x750002_1) (SQ3 w' gb746 (.int .i64 a1_0) (.int .i64 a1_1) (.bool a1_2)))) (ds := [8]) #[false, false, false, false, false, false, false, false, false] (by kernel_rfl) rfl rfl (bS2 BK748 (bS3 BK749 (bT3 BK746))) (fun hHeld => ?_); refine with_tabW impl_Miller.tab6 impl_Miller.bits6 (fun HT_ HW_ => ?_)
      generalize wr.drew = w59 at BK745 BK746 BK747 BK748 BK749 HB hHeld ⊢
      refine tI8 0 (some 16) HT_.out HW_.out hHeld ?_
      refine tI8 1 (some 17) HT_.out HW_.out hHeld ?_
      refine tI8 3 (some 19) HT_.out HW_.out hHeld ?_
      refine tI8 4 (some 20) HT_.out HW_.out hHeld ?_
      refine tI8 5 (some 21) HT_.out HW_.out hHeld ?_
      refine oI 2 (some 18) HT_.out (fun K hK => ?_)
      refine gO Try.func21 #[.agg #[.int .i64 x749000_1, .int .i64 x749001_1], .agg #[.int .i64 x749000_1, .int .i64 x749001_1]] ?_
      with_reducible refine (impl_TwoMul.calls x749000_1 x749001_1 x749000_1 x749001_1 t751 t752 _ A22.out).mono ?_
      rintro e w60 ⟨rfl, hb⟩
      refine ⟨_, rfl, ?_⟩
      replace BK745 := bB BK745 hb
      replace BK746 := bB BK746 hb
      replace BK747 := bB BK747 hb
      replace BK748 := bB BK748 hb
      replace BK749 := bB BK749 hb
      replace HB := bS HB hb
      (try clear hb)
      refine hK.out _ _ (bS2 BK748 (bS3 BK749 (bT3 BK746))) (fun hHeld => ?_)
      clear hK K
      refine nO (some 18) ?_
      refine oI 6 (some 22) HT_.out (fun K hK => ?_)
      refine gO Try.func25 #[.agg #[.int .i64 x750000_1, .int .i64 x750001_1, .bool x750002_1], .agg #[.int .i64 x750000_1, .int .i64 x750001_1, .bool x750002_1], .agg #[.int .i64 a1_0, .int .i64 a1_1, .bool a1_2]] ?_
      with_reducible refine (impl_PairLine.calls k1 x750000_1 x750001_1 x750002_1 x750000_1 x750001_1 x750002_1 a1_0 a1_1 a1_2 t753 t754 _ A23.out).mono ?_
      rintro e w61 ⟨rfl, hb⟩
      refine ⟨_, rfl, ?_⟩
      replace BK745 := bB BK745 hb
      replace BK746 := bB BK746 hb
      replace BK747 := bB BK747 hb
      replace BK748 := bB BK748 hb
      replace BK749 := bB BK749 hb
      replace HB := bS HB hb
      (try clear hb)
      refine hK.out _ _ (bS2 BK748 (bS3 BK749 (bT3 BK746))) (fun hHeld => ?_)
      clear hK K
      refine nO (some 22) ?_
      refine oI 7 (some 23) HT_.out (fun K hK => ?_)
      refine gO Try.func21 #[.agg #[.int .i64 t751, .int .i64 t752], .agg #[.int .i64 t753, .int .i64 t754]] ?_
      with_reducible refine (impl_TwoMul.calls t751 t752 t753 t754 t755 t756 _ A24.out).mono ?_
      rintro e w62 ⟨rfl, hb⟩
      refine ⟨_, rfl, ?_⟩
      replace BK745 := bB BK745 hb
      replace BK746 := bB BK746 hb
      replace BK747 := bB BK747 hb
      replace BK748 := bB BK748 hb
      replace BK749 := bB BK749 hb
      replace HB := bS HB hb
      (try clear hb)
      refine hK.out _ _ (bS2 BK748 (bS3 BK749 (bT3 BK746))) (fun hHeld => ?_)
      clear hK K
      refine nO (some 23) ?_
      refine last_ (i := 8) (N := none) #[true, true, true, true, true, true, true, true, true] rfl rfl (one_of HT_.out (by kernel_rfl)) (by decide) (fun K hK => ?_)
      have hs63 : w62.cell? ⟨gb748, 0, none⟩ = some (.int .i64 x749000_1) := bc BK748 0
      have hfs63 := blk_frozen BK748.out 0
      have hns63_0 := NB745_748.out
      have hns63_1 := NB746_748.out
      have hns63_2 := NB747_748.out
      have hns63_4 := NB749_748.out
      have hms63_0 := NB748_745.out
      have hms63_1 := NB748_746.out
      have hms63_2 := NB748_747.out
      have hms63_4 := NB748_749.out
      have hs64 : w62.cell? ⟨gb748, 1, none⟩ = some (.int .i64 x749001_1) := bc BK748 1
      have hfs64 := blk_frozen BK748.out 1
      have hns64_0 := NB745_748.out
      have hns64_1 := NB746_748.out
      have hns64_2 := NB747_748.out
      have hns64_4 := NB749_748.out
      have hms64_0 := NB748_745.out
      have hms64_1 := NB748_746.out
      have hms64_2 := NB748_747.out
      have hms64_4 := NB748_749.out
      refine skip_ (w1 := ?_) (by rfl) rfl ?_ ?_
      rotate_left
      ·go_simp
       rfl
      refine hK.out _ _ ?_
      clear hK K
      refine done_ (done_of HT_.out (by kernel_rfl)) ?_
      obtain ⟨hnb65, hnc65⟩ := nB NB749_745
      obtain ⟨hnb66, hnc66⟩ := nB NB749_746
      obtain ⟨hnb67, hnc67⟩ := nB NB749_747
      obtain ⟨hnb68, hnc68⟩ := nB NB749_748
      obtain ⟨hcz69_0, hcz69_1, hcz69_2, hfz69_0, hfz69_1, hfz69_2⟩ := bK3 (w := w62) BK749
      try go_wp2_with (first | ((with_reducible refine gate_callee (f := 19) rfl ?_); refine gL (some 26) Try.func19 #[.agg #[.int .i64 x750000_1, .int .i64 x750001_1, .bool x750002_1], .agg #[.int .i64 x750000_1, .int .i64 x750001_1, .bool x750002_1]] ?_; (with_reducible refine (impl_PointAdd.calls k1 x750000_1 x750001_1 x750002_1 x750000_1 x750001_1 x750002_1 t757 t758 t759 _ A25.out).mono ?_); rintro e w70 ⟨rfl, hb⟩; refine ⟨_, rfl, ?_⟩; replace BK745 := bB BK745 hb; replace BK746 := bB BK746 hb; replace BK747 := bB BK747 hb; replace BK748 := bV 31 #[.int .i64 t755, .int .i64 t756] BK748 hb; replace BK749 := bB BK749 hb; replace HB := bS HB hb; (try clear hb); obtain ⟨hcz71_0, hcz71_1, hcz71_2, hfz71_0, hfz71_1, hfz71_2⟩ := bK3 (w := w70) BK749))
      go_roundg k1
      case measure => have := HK1.out; omega
      case rel => exact ⟨(wrap64 (x7_1 - 1)), (t755), (t756), (t757), (t758), (t759), rS, H', ⟨by have := HK1.out; omega⟩, ⟨bP BK745⟩, ⟨bP BK746⟩, ⟨bP BK747⟩, ⟨bP BK748⟩, ⟨bU BK749⟩, ⟨bZ HB⟩⟩
    ·rw [if_neg c27] at H
     exact absurd H (by simp)
   ·rw [if_neg c21] at H
    have c21b0 : decide (0 ≤ x7_1) = false := decide_eq_false c21
    clear c21
    simp only [Option.some.injEq, Prod.mk.injEq] at H
    obtain ⟨rfl, rfl⟩ := H
    obtain ⟨hnb72, hnc72⟩ := nB NB748_745
    obtain ⟨hnb73, hnc73⟩ := nB NB748_746
    obtain ⟨hnb74, hnc74⟩ := nB NB748_747
    obtain ⟨hnb75, hnc75⟩ := nB NB748_749
    obtain ⟨hcz76_0, hcz76_1, hfz76_0, hfz76_1⟩ := bK2 (w := wr) BK748
    obtain ⟨hnb77, hnc77⟩ := nB NB747_745
    obtain ⟨hnb78, hnc78⟩ := nB NB747_746
    obtain ⟨hnb79, hnc79⟩ := nB NB747_749
    obtain ⟨hcz80_0, hcz80_1, hfz80_0, hfz80_1⟩ := bK2 (w := wr) BK747
    go_wp2
    refine rC gb747 31 #[.int .i64 x749000_1, .int .i64 x749001_1] (bU BK747) Try.underlying31 ?_
    exact ⟨rR, bZ HB⟩
/-! ### impl_PointTimes: function 18 -/
def impl_PointTimes.l0 : Nat → Int → Int → Int → Bool → Int → Int → Bool → Option (Int × Int × Bool)
 | 0, _, _, _, _, _, _, _ => none
 | k + 1, x0, x145000, x145001, x145002, x147000, x147001, x147002 => if x0 > 0 then (if (Int.tmod x0 2) = 1 then ((impl_add.f k x147000 x147001 x147002 x145000 x145001 x145002).bind fun bt149 => ((impl_add.f k x145000 x145001 x145002 x145000 x145001 x145002).bind fun bt152 => (impl_PointTimes.l0 k (wrap64 (Int.tdiv x0 2)) bt152.1 bt152.2.1 bt152.2.2 bt149.1 bt149.2.1 bt149.2.2))) else ((impl_add.f k x145000 x145001 x145002 x145000 x145001 x145002).bind fun bt155 => (impl_PointTimes.l0 k (wrap64 (Int.tdiv x0 2)) bt155.1 bt155.2.1 bt155.2.2 x147000 x147001 x147002))) else (some (x147000, x147001, x147002))
def impl_PointTimes.f (k : Nat) (a0 : Int) (a1_0 : Int) (a1_1 : Int) (a1_2 : Bool) : Option (Int × Int × Bool) := (impl_PointOk.f a1_0 a1_1 a1_2).bind fun t147 => (if t147 = true then ((impl_remainder.f a0 12108).bind fun t148 => (impl_PointTimes.l0 k t148 a1_0 a1_1 a1_2 0 0 true)) else (some (0, 0, true)))
theorem impl_PointTimes.mono_l : ∀ k, (∀ y0 y1 y2 y3 y4 y5 y6, LeO (impl_PointTimes.l0 k y0 y1 y2 y3 y4 y5 y6) (impl_PointTimes.l0 (k + 1) y0 y1 y2 y3 y4 y5 y6))
 | 0 => fun _ _ _ _ _ _ _ r h => by simp [impl_PointTimes.l0] at h
 | k + 1 => by
  have ih0 := impl_PointTimes.mono_l k
  ·intro y0 y1 y2 y3 y4 y5 y6
   unfold impl_PointTimes.l0
   repeat' first
   | (with_reducible exact ih0 _ _ _ _ _ _ _)
   | (with_reducible exact impl_add.mono _ _ _ _ _ _ _)
   | (with_reducible exact LeO.refl _)
   | (with_reducible exact LeO.none _)
   | (with_reducible refine LeO.ite ?_ ?_)
   | (with_reducible refine LeO.bind ?_ (fun _ => ?_))
   | exact ih0 _ _ _ _ _ _ _
   | exact impl_add.mono _ _ _ _ _ _ _
   | exact LeO.none _
   | refine LeO.ite ?_ ?_
   | refine LeO.bind ?_ (fun _ => ?_)
theorem impl_PointTimes.mono : ∀ a0 a1 a2 a3 k, LeO (impl_PointTimes.f k a0 a1 a2 a3) (impl_PointTimes.f (k + 1) a0 a1 a2 a3) := by
 intro a0 a1 a2 a3 k
 have ih0 := impl_PointTimes.mono_l k
 unfold impl_PointTimes.f
 repeat' first
   | (with_reducible exact ih0 _ _ _ _ _ _ _)
   | (with_reducible exact impl_add.mono _ _ _ _ _ _ _)
   | (with_reducible exact LeO.refl _)
   | (with_reducible exact LeO.none _)
   | (with_reducible refine LeO.ite ?_ ?_)
   | (with_reducible refine LeO.bind ?_ (fun _ => ?_))
   | exact ih0 _ _ _ _ _ _ _
   | exact impl_add.mono _ _ _ _ _ _ _
   | exact LeO.none _
   | refine LeO.ite ?_ ?_
   | refine LeO.bind ?_ (fun _ => ?_)
set_option maxHeartbeats 8000000 in
set_option maxRecDepth 100000 in
theorem impl_PointTimes.calls (k : Nat) (a0 : Int) (a1_0 : Int) (a1_1 : Int) (a1_2 : Bool) (r1 : Int) (r2 : Int) (r3 : Bool) (w : World) (h : impl_PointTimes.f k a0 a1_0 a1_1 a1_2 = some (r1, r2, r3)) :
  Calls Try.prog 18 #[.int .i64 a0, .agg #[.int .i64 a1_0, .int .i64 a1_1, .bool a1_2]] w fun e w' => e = .returned (.agg #[.int .i64 r1, .int .i64 r2, .bool r3]) ∧ Below w.heap.size w w' := by
 have hu25 := Try.underlying25
 have HB := Aside0.mk (Below.refl w.heap.size w)
 have H : ((impl_PointOk.f a1_0 a1_1 a1_2).bind fun t147 => (if t147 = true then ((impl_remainder.f a0 12108).bind fun t148 => (impl_PointTimes.l0 k t148 a1_0 a1_1 a1_2 0 0 true)) else (some (0, 0, true)))) = some (r1, r2, r3) := h
 clear h
 replace H := Option.bind_eq_some_iff.mp H
 obtain ⟨t147, A30, H⟩ := H
 have A3 := Aside0.mk A30
 clear A30
 by_cases c4 : t147 = true
 ·subst c4
  rw [if_pos rfl] at H
  replace H := Option.bind_eq_some_iff.mp H
  obtain ⟨t148, A50, H⟩ := H
  have A5 := Aside0.mk A50
  clear A50
  have H' := Aside0.mk H
  clear H
  go_enter Try.func18, Try.ntmps18
  go_wp2_with (first | ((with_reducible refine gate_dst (N := 3) rfl ?_); refine bE 3 #[.int .i64 a1_0, .int .i64 a1_1, .bool a1_2] 25 ?_; intro gb144 hg w6 hbox hb; have BK144 := Aside0.mk (hbox); have GW144 := bG HB hg; have GE144 := bG HB hg; replace HB := bS HB hb; clear hb hbox hg) | ((with_reducible refine gate_dst (N := 4) rfl ?_); refine bE 4 #[.int .i64 0, .int .i64 0, .bool false] 25 ?_; intro gb145 hg w7 hbox hb; have BK145 := Aside0.mk (hbox); have GW145 := bG HB hg; have GE145 := bG HB hg; replace HB := bS HB hb; have NB144_145 := bL BK144 hg; have NB145_144 := bR BK144 hg; replace BK144 := bB BK144 hb; clear hb hbox hg) | ((with_reducible refine gate_dst (N := 5) rfl ?_); refine bE 5 #[.int .i64 0, .int .i64 0, .bool false] 25 ?_; intro gb146 hg w8 hbox hb; have BK146 := Aside0.mk (hbox); have GW146 := bG HB hg; have GE146 := bG HB hg; replace HB := bS HB hb; have NB144_146 := bL BK144 hg; have NB146_144 := bR BK144 hg; replace BK144 := bB BK144 hb; have NB145_146 := bL BK145 hg; have NB146_145 := bR BK145 hg; replace BK145 := bB BK145 hb; clear hb hbox hg; obtain ⟨hnb9, hnc9⟩ := nB NB146_144; obtain ⟨hnb10, hnc10⟩ := nB NB146_145; obtain ⟨hcz11_0, hcz11_1, hcz11_2, hfz11_0, hfz11_1, hfz11_2⟩ := bK3 (w := w8) BK146; obtain ⟨hnb12, hnc12⟩ := nB NB144_145; obtain ⟨hcz13_0, hcz13_1, hcz13_2, hfz13_0, hfz13_1, hfz13_2⟩ := bK3 (w := w8) BK144) | ((with_reducible refine gate_callee (f := 31) rfl ?_); refine gL (some 8) Try.func31 #[.agg #[.int .i64 a1_0, .int .i64 a1_1, .bool a1_2]] ?_; (with_reducible refine (impl_PointOk.calls a1_0 a1_1 a1_2 true _ A3.out).mono ?_); rintro e w14 ⟨rfl, hb⟩; refine ⟨_, rfl, ?_⟩; replace BK144 := bB BK144 hb; replace BK145 := bB BK145 hb; replace BK146 := bV 25 #[.int .i64 0, .int .i64 0, .bool true] BK146 hb; replace HB := bS HB hb; (try clear hb)) | ((with_reducible refine gate_callee (f := 65) rfl ?_); refine gL (some 12) Try.func65 #[.int .i64 a0, .int .i64 12108] ?_; (with_reducible refine (impl_remainder.calls a0 12108 t148 _ A5.out).mono ?_); rintro e w' ⟨rfl, ⟨nd, rfl⟩⟩; refine ⟨_, rfl, ?_⟩))
  go_loopg [0] k (fun kq v0 w' => ∃ (x0_1 : Int) (x145000_1 : Int) (x145001_1 : Int) (x145002_1 : Bool) (x147000_1 : Int) (x147001_1 : Int) (x147002_1 : Bool), v0 = .int .i64 x0_1 ∧ Aside0 (impl_PointTimes.l0 kq x0_1 x145000_1 x145001_1 x145002_1 x147000_1 x147001_1 x147002_1 = some (r1, r2, r3)) ∧ Aside0 (kq ≤ k) ∧ Aside0 (w'.heap[gb144]? = some (.cells #[.int .i64 x145000_1, .int .i64 x145001_1, .bool x145002_1] 25 (0, 0))) ∧ Aside0 (w'.heap[gb145]? = some (.cells #[.int .i64 0, .int .i64 0, .bool false] 25 (0, 0))) ∧ Aside0 (w'.heap[gb146]? = some (.cells #[.int .i64 x147000_1, .int .i64 x147001_1, .bool x147002_1] 25 (0, 0))) ∧ Aside0 (Below w.heap.size w w'))
  case atStart => exact ⟨(t148), (a1_0), (a1_1), (a1_2), (0), (0), (true), rS, H', ⟨Nat.le_refl _⟩, ⟨bP BK144⟩, ⟨bP BK145⟩, ⟨bP BK146⟩, ⟨bZ HB⟩⟩
  case round =>
   clear H'
   try clear c1
   try clear p2
   try clear c3
   try clear c4
   try clear c6
   try clear c9
   try clear c10
   try clear c12
   try clear hcz11_0
   try clear hcz11_1
   try clear hcz11_2
   try clear hcz13_0
   try clear hcz13_1
   try clear hcz13_2
   try clear hfz11_0
   try clear hfz11_1
   try clear hfz11_2
   try clear hfz13_0
   try clear hfz13_1
   try clear hfz13_2
   obtain ⟨x0_1, x145000_1, x145001_1, x145002_1, x147000_1, x147001_1, x147002_1, rfl, HA, HK1, BK144, BK145, BK146, HB⟩ := hrel
   cases gk with
   | zero => exact absurd HA.out (by simp [impl_PointTimes.l0])
   | succ k1 =>
    have H := HA.out
    clear HA
    simp only [impl_PointTimes.l0] at H
    by_cases c15 : x0_1 > 0
    ·rw [if_pos c15] at H
     have c15b0 : decide (0 < x0_1) = true := decide_eq_true c15
     clear c15
     by_cases c16 : (Int.tmod x0_1 2) = 1
     ·rw [if_pos c16] at H
      have c16b0 : ((Int.tmod x0_1 2) == 1) = true := beq_iff_eq.mpr c16
      have c16b1 : ((Int.tmod x0_1 2) != 1) = false := bne_eq_false_iff_eq.mpr c16
      clear c16
      replace H := Option.bind_eq_some_iff.mp H
      obtain ⟨⟨t149, t150, t151⟩, A170, H⟩ := H
      have A17 := Aside0.mk A170
      clear A170
      replace H := Option.bind_eq_some_iff.mp H
      obtain ⟨⟨t152, t153, t154⟩, A180, H⟩ := H
      have A18 := Aside0.mk A180
      clear A180
      have H' := Aside0.mk H
      clear H
      obtain ⟨hnb19, hnc19⟩ := nB NB146_144
      obtain ⟨hnb20, hnc20⟩ := nB NB146_145
      obtain ⟨hcz21_0, hcz21_1, hcz21_2, hfz21_0, hfz21_1, hfz21_2⟩ := bK3 (w := wr) BK146
      obtain ⟨hnb22, hnc22⟩ := nB NB144_145
      obtain ⟨hcz23_0, hcz23_1, hcz23_2, hfz23_0, hfz23_1, hfz23_2⟩ := bK3 (w := wr) BK144
      go_wp2_with (first | ((with_reducible refine gate_callee (f := 66) rfl ?_); refine gL (some 22) Try.func66 #[.agg #[.int .i64 x147000_1, .int .i64 x147001_1, .bool x147002_1], .agg #[.int .i64 x145000_1, .int .i64 x145001_1, .bool x145002_1]] ?_; (with_reducible refine (impl_add.calls k1 x147000_1 x147001_1 x147002_1 x145000_1 x145001_1 x145002_1 t149 t150 t151 _ A17.out).mono ?_); rintro e w24 ⟨rfl, hb⟩; refine ⟨_, rfl, ?_⟩; replace BK144 := bB BK144 hb; replace BK145 := bB BK145 hb; replace BK146 := bB BK146 hb; replace HB := bS HB hb; (try clear hb); obtain ⟨hcz25_0, hcz25_1, hcz25_2, hfz25_0, hfz25_1, hfz25_2⟩ := bK3 (w := w24) BK146; obtain ⟨hcz26_0, hcz26_1, hcz26_2, hfz26_0, hfz26_1, hfz26_2⟩ := bK3 (w := w24) BK144) | ((with_reducible refine gate_callee (f := 66) rfl ?_); refine gL (some 25) Try.func66 #[.agg #[.int .i64 x145000_1, .int .i64 x145001_1, .bool x145002_1], .agg #[.int .i64 x145000_1, .int .i64 x145001_1, .bool x145002_1]] ?_; (with_reducible refine (impl_add.calls k1 x145000_1 x145001_1 x145002_1 x145000_1 x145001_1 x145002_1 t152 t153 t154 _ A18.out).mono ?_); rintro e w27 ⟨rfl, hb⟩; refine ⟨_, rfl, ?_⟩; replace BK144 := bB BK144 hb; replace BK145 := bB BK145 hb; replace BK146 := bV 25 #[.int .i64 t149, .int .i64 t150, .bool t151] BK146 hb; replace HB := bS HB hb; (try clear hb); obtain ⟨hcz28_0, hcz28_1, hcz28_2, hfz28_0, hfz28_1, hfz28_2⟩ := bK3 (w := w27) BK144))
      go_roundg k1
      case measure => have := HK1.out; omega
      case rel => exact ⟨(wrap64 (Int.tdiv x0_1 2)), (t152), (t153), (t154), (t149), (t150), (t151), rS, H', ⟨by have := HK1.out; omega⟩, ⟨bU BK144⟩, ⟨bP BK145⟩, ⟨bP BK146⟩, ⟨bZ HB⟩⟩
     ·rw [if_neg c16] at H
      have c16b0 : ((Int.tmod x0_1 2) == 1) = false := beq_eq_false_iff_ne.mpr c16
      have c16b1 : ((Int.tmod x0_1 2) != 1) = true := bne_iff_ne.mpr c16
      replace H := Option.bind_eq_some_iff.mp H
      obtain ⟨⟨t155, t156, t157⟩, A290, H⟩ := H
      have A29 := Aside0.mk A290
      clear A290
      have H' := Aside0.mk H
      clear H
      obtain ⟨hnb30, hnc30⟩ := nB NB144_145
      obtain ⟨hnb31, hnc31⟩ := nB NB144_146
      obtain ⟨hcz32_0, hcz32_1, hcz32_2, hfz32_0, hfz32_1, hfz32_2⟩ := bK3 (w := wr) BK144
      go_wp2_with (first | ((with_reducible refine gate_callee (f := 66) rfl ?_); refine gL (some 25) Try.func66 #[.agg #[.int .i64 x145000_1, .int .i64 x145001_1, .bool x145002_1], .agg #[.int .i64 x145000_1, .int .i64 x145001_1, .bool x145002_1]] ?_; (with_reducible refine (impl_add.calls k1 x145000_1 x145001_1 x145002_1 x145000_1 x145001_1 x145002_1 t155 t156 t157 _ A29.out).mono ?_); rintro e w33 ⟨rfl, hb⟩; refine ⟨_, rfl, ?_⟩; replace BK144 := bB BK144 hb; replace BK145 := bB BK145 hb; replace BK146 := bB BK146 hb; replace HB := bS HB hb; (try clear hb); obtain ⟨hcz34_0, hcz34_1, hcz34_2, hfz34_0, hfz34_1, hfz34_2⟩ := bK3 (w := w33) BK144))
      go_roundg k1
      case measure => have := HK1.out; omega
      case rel => exact ⟨(wrap64 (Int.tdiv x0_1 2)), (t155), (t156), (t157), (x147000_1), (x147001_1), (x147002_1), rS, H', ⟨by have := HK1.out; omega⟩, ⟨bU BK144⟩, ⟨bP BK145⟩, ⟨bP BK146⟩, ⟨bZ HB⟩⟩
    ·rw [if_neg c15] at H
     have c15b0 : decide (0 < x0_1) = false := decide_eq_false c15
     clear c15
     simp only [Option.some.injEq, Prod.mk.injEq] at H
     obtain ⟨rfl, rfl, rfl⟩ := H
     obtain ⟨hnb35, hnc35⟩ := nB NB146_144
     obtain ⟨hnb36, hnc36⟩ := nB NB146_145
     obtain ⟨hcz37_0, hcz37_1, hcz37_2, hfz37_0, hfz37_1, hfz37_2⟩ := bK3 (w := wr) BK146
     obtain ⟨hnb38, hnc38⟩ := nB NB145_144
     obtain ⟨hcz39_0, hcz39_1, hcz39_2, hfz39_0, hfz39_1, hfz39_2⟩ := bK3 (w := wr) BK145
     go_wp2
     refine rC gb145 25 #[.int .i64 x147000_1, .int .i64 x147001_1, .bool x147002_1] (bU BK145) Try.underlying25 ?_
     exact ⟨rR, bZ HB⟩
 ·replace c4 := Bool.eq_false_iff.mpr c4
  subst c4
  rw [if_neg (show ¬ (false = true) by decide)] at H
  simp only [Option.some.injEq, Prod.mk.injEq] at H
  obtain ⟨rfl, rfl, rfl⟩ := H
  go_enter Try.func18, Try.ntmps18
  go_wp2_with (first | ((with_reducible refine gate_dst (N := 3) rfl ?_); refine bE 3 #[.int .i64 a1_0, .int .i64 a1_1, .bool a1_2] 25 ?_; intro gb144 hg w40 hbox hb; have BK144 := Aside0.mk (hbox); have GW144 := bG HB hg; have GE144 := bG HB hg; replace HB := bS HB hb; clear hb hbox hg) | ((with_reducible refine gate_dst (N := 4) rfl ?_); refine bE 4 #[.int .i64 0, .int .i64 0, .bool false] 25 ?_; intro gb145 hg w41 hbox hb; have BK145 := Aside0.mk (hbox); have GW145 := bG HB hg; have GE145 := bG HB hg; replace HB := bS HB hb; have NB144_145 := bL BK144 hg; have NB145_144 := bR BK144 hg; replace BK144 := bB BK144 hb; clear hb hbox hg) | ((with_reducible refine gate_dst (N := 5) rfl ?_); refine bE 5 #[.int .i64 0, .int .i64 0, .bool false] 25 ?_; intro gb146 hg w42 hbox hb; have BK146 := Aside0.mk (hbox); have GW146 := bG HB hg; have GE146 := bG HB hg; replace HB := bS HB hb; have NB144_146 := bL BK144 hg; have NB146_144 := bR BK144 hg; replace BK144 := bB BK144 hb; have NB145_146 := bL BK145 hg; have NB146_145 := bR BK145 hg; replace BK145 := bB BK145 hb; clear hb hbox hg; obtain ⟨hnb43, hnc43⟩ := nB NB146_144; obtain ⟨hnb44, hnc44⟩ := nB NB146_145; obtain ⟨hcz45_0, hcz45_1, hcz45_2, hfz45_0, hfz45_1, hfz45_2⟩ := bK3 (w := w42) BK146; obtain ⟨hnb46, hnc46⟩ := nB NB144_145; obtain ⟨hcz47_0, hcz47_1, hcz47_2, hfz47_0, hfz47_1, hfz47_2⟩ := bK3 (w := w42) BK144) | ((with_reducible refine gate_callee (f := 31) rfl ?_); refine gL (some 8) Try.func31 #[.agg #[.int .i64 a1_0, .int .i64 a1_1, .bool a1_2]] ?_; (with_reducible refine (impl_PointOk.calls a1_0 a1_1 a1_2 false _ A3.out).mono ?_); rintro e w48 ⟨rfl, hb⟩; refine ⟨_, rfl, ?_⟩; replace BK144 := bB BK144 hb; replace BK145 := bB BK145 hb; replace BK146 := bV 25 #[.int .i64 0, .int .i64 0, .bool true] BK146 hb; replace HB := bS HB hb; (try clear hb); obtain ⟨hcz49_0, hcz49_1, hcz49_2, hfz49_0, hfz49_1, hfz49_2⟩ := bK3 (w := w48) BK146; obtain ⟨hcz50_0, hcz50_1, hcz50_2, hfz50_0, hfz50_1, hfz50_2⟩ := bK3 (w := w48) BK145))
  refine rC gb145 25 #[.int .i64 0, .int .i64 0, .bool true] (bU BK145) Try.underlying25 ?_
  exact ⟨rR, bZ HB⟩
/-! ### impl_InGroup: function 51 -/
def impl_InGroup.f (k : Nat) (a0_0 : Int) (a0_1 : Int) (a0_2 : Bool) : Option (Bool) := (impl_PointOk.f a0_0 a0_1 a0_2).bind fun t566 => (if t566 = true then ((impl_PointTimes.f k 1009 a0_0 a0_1 a0_2).bind fun bt567 => (some bt567.2.2)) else (some false))
theorem impl_InGroup.mono : ∀ a0 a1 a2 k, LeO (impl_InGroup.f k a0 a1 a2) (impl_InGroup.f (k + 1) a0 a1 a2) := by
 intro a0 a1 a2 k
 unfold impl_InGroup.f
 repeat' first
   | (with_reducible exact impl_PointTimes.mono _ _ _ _ _)
   | (with_reducible exact LeO.refl _)
   | (with_reducible exact LeO.none _)
   | (with_reducible refine LeO.ite ?_ ?_)
   | (with_reducible refine LeO.bind ?_ (fun _ => ?_))
   | exact impl_PointTimes.mono _ _ _ _ _
   | exact LeO.none _
   | refine LeO.ite ?_ ?_
   | refine LeO.bind ?_ (fun _ => ?_)
set_option maxHeartbeats 8000000 in
set_option maxRecDepth 100000 in
theorem impl_InGroup.calls (k : Nat) (a0_0 : Int) (a0_1 : Int) (a0_2 : Bool) (r : Bool) (w : World) (h : impl_InGroup.f k a0_0 a0_1 a0_2 = some r) :
  Calls Try.prog 51 #[.agg #[.int .i64 a0_0, .int .i64 a0_1, .bool a0_2]] w fun e w' => e = .returned (.bool r) ∧ Below w.heap.size w w' := by
 have hu25 := Try.underlying25
 have hfd25_0 : ∀ (x0 : Int) (x1 : Int) (x2 : Bool) (w_ : World), (Instr.field 25 (.agg #[.int .i64 x0, .int .i64 x1, .bool x2]) 0).run Try.prog w_ = .ok (.int .i64 x0) w_ := fun _ _ _ _ => by kernel_rfl
 have hfd25_1 : ∀ (x0 : Int) (x1 : Int) (x2 : Bool) (w_ : World), (Instr.field 25 (.agg #[.int .i64 x0, .int .i64 x1, .bool x2]) 1).run Try.prog w_ = .ok (.int .i64 x1) w_ := fun _ _ _ _ => by kernel_rfl
 have hfd25_2 : ∀ (x0 : Int) (x1 : Int) (x2 : Bool) (w_ : World), (Instr.field 25 (.agg #[.int .i64 x0, .int .i64 x1, .bool x2]) 2).run Try.prog w_ = .ok (.bool x2) w_ := fun _ _ _ _ => by kernel_rfl
 have HB := Aside0.mk (Below.refl w.heap.size w)
 have H : ((impl_PointOk.f a0_0 a0_1 a0_2).bind fun t566 => (if t566 = true then ((impl_PointTimes.f k 1009 a0_0 a0_1 a0_2).bind fun bt567 => (some bt567.2.2)) else (some false))) = some r := h
 clear h
 replace H := Option.bind_eq_some_iff.mp H
 obtain ⟨t566, A20, H⟩ := H
 have A2 := Aside0.mk A20
 clear A20
 by_cases c3 : t566 = true
 ·subst c3
  rw [if_pos rfl] at H
  replace H := Option.bind_eq_some_iff.mp H
  obtain ⟨⟨t567, t568, t569⟩, A40, H⟩ := H
  have A4 := Aside0.mk A40
  clear A40
  obtain rfl := Option.some.inj H
  go_enter Try.func51, Try.ntmps51
  go_wp2_with (first | ((with_reducible refine gate_dst (N := 1) rfl ?_); refine bE 1 #[.int .i64 a0_0, .int .i64 a0_1, .bool a0_2] 25 ?_; intro gb565 hg w5 hbox hb; have BK565 := Aside0.mk (hbox); have GW565 := bG HB hg; have GE565 := bG HB hg; replace HB := bS HB hb; clear hb hbox hg; obtain ⟨hcz6_0, hcz6_1, hcz6_2, hfz6_0, hfz6_1, hfz6_2⟩ := bK3 (w := w5) BK565) | ((with_reducible refine gate_callee (f := 31) rfl ?_); refine gL (some 4) Try.func31 #[.agg #[.int .i64 a0_0, .int .i64 a0_1, .bool a0_2]] ?_; (with_reducible refine (impl_PointOk.calls a0_0 a0_1 a0_2 true _ A2.out).mono ?_); rintro e w7 ⟨rfl, hb⟩; refine ⟨_, rfl, ?_⟩; replace BK565 := bB BK565 hb; replace HB := bS HB hb; (try clear hb); obtain ⟨hcz8_0, hcz8_1, hcz8_2, hfz8_0, hfz8_1, hfz8_2⟩ := bK3 (w := w7) BK565) | (go_at_call 18; (with_reducible refine (impl_PointTimes.calls k 1009 a0_0 a0_1 a0_2 t567 t568 t569 _ A4.out).mono ?_); rintro e w9 ⟨rfl, hb⟩; replace BK565 := bB BK565 hb; replace HB := bS HB hb; (try clear hb)))
  go_ret
  exact ⟨rR, bZ HB⟩
 ·replace c3 := Bool.eq_false_iff.mpr c3
  subst c3
  rw [if_neg (show ¬ (false = true) by decide)] at H
  obtain rfl := Option.some.inj H
  go_enter Try.func51, Try.ntmps51
  go_wp2_with (first | ((with_reducible refine gate_dst (N := 1) rfl ?_); refine bE 1 #[.int .i64 a0_0, .int .i64 a0_1, .bool a0_2] 25 ?_; intro gb565 hg w10 hbox hb; have BK565 := Aside0.mk (hbox); have GW565 := bG HB hg; have GE565 := bG HB hg; replace HB := bS HB hb; clear hb hbox hg; obtain ⟨hcz11_0, hcz11_1, hcz11_2, hfz11_0, hfz11_1, hfz11_2⟩ := bK3 (w := w10) BK565) | ((with_reducible refine gate_callee (f := 31) rfl ?_); refine gL (some 4) Try.func31 #[.agg #[.int .i64 a0_0, .int .i64 a0_1, .bool a0_2]] ?_; (with_reducible refine (impl_PointOk.calls a0_0 a0_1 a0_2 false _ A2.out).mono ?_); rintro e w12 ⟨rfl, hb⟩; refine ⟨_, rfl, ?_⟩; replace BK565 := bB BK565 hb; replace HB := bS HB hb; (try clear hb)))
  go_ret
  exact ⟨rR, bZ HB⟩
/-! ### impl_TwoPow: function 20 -/
def impl_TwoPow.l0 : Nat → Int → Int → Int → Int → Int → Option (Int × Int)
 | 0, _, _, _, _, _ => none
 | k + 1, x1, x721000, x721001, x723000, x723001 => if x1 > 0 then (if (Int.tmod x1 2) = 1 then ((impl_TwoMul.f x723000 x723001 x721000 x721001).bind fun bt723 => ((impl_TwoMul.f x721000 x721001 x721000 x721001).bind fun bt725 => (impl_TwoPow.l0 k (wrap64 (Int.tdiv x1 2)) bt725.1 bt725.2 bt723.1 bt723.2))) else ((impl_TwoMul.f x721000 x721001 x721000 x721001).bind fun bt727 => (impl_TwoPow.l0 k (wrap64 (Int.tdiv x1 2)) bt727.1 bt727.2 x723000 x723001))) else (some (x723000, x723001))
def impl_TwoPow.f (k : Nat) (a0_0 : Int) (a0_1 : Int) (a1 : Int) : Option (Int × Int) := if a1 < 0 then (some (0, 0)) else (impl_TwoPow.l0 k a1 a0_0 a0_1 1 0)
theorem impl_TwoPow.mono_l : ∀ k, (∀ y0 y1 y2 y3 y4, LeO (impl_TwoPow.l0 k y0 y1 y2 y3 y4) (impl_TwoPow.l0 (k + 1) y0 y1 y2 y3 y4))
 | 0 => fun _ _ _ _ _ r h => by simp [impl_TwoPow.l0] at h
 | k + 1 => by
  have ih0 := impl_TwoPow.mono_l k
  ·intro y0 y1 y2 y3 y4
   unfold impl_TwoPow.l0
   repeat' first
   | (with_reducible exact ih0 _ _ _ _ _)
   | (with_reducible exact LeO.refl _)
   | (with_reducible exact LeO.none _)
   | (with_reducible refine LeO.ite ?_ ?_)
   | (with_reducible refine LeO.bind ?_ (fun _ => ?_))
   | exact ih0 _ _ _ _ _
   | exact LeO.none _
   | refine LeO.ite ?_ ?_
   | refine LeO.bind ?_ (fun _ => ?_)
theorem impl_TwoPow.mono : ∀ a0 a1 a2 k, LeO (impl_TwoPow.f k a0 a1 a2) (impl_TwoPow.f (k + 1) a0 a1 a2) := by
 intro a0 a1 a2 k
 have ih0 := impl_TwoPow.mono_l k
 unfold impl_TwoPow.f
 repeat' first
   | (with_reducible exact ih0 _ _ _ _ _)
   | (with_reducible exact LeO.refl _)
   | (with_reducible exact LeO.none _)
   | (with_reducible refine LeO.ite ?_ ?_)
   | (with_reducible refine LeO.bind ?_ (fun _ => ?_))
   | exact ih0 _ _ _ _ _
   | exact LeO.none _
   | refine LeO.ite ?_ ?_
   | refine LeO.bind ?_ (fun _ => ?_)
set_option maxHeartbeats 8000000 in
set_option maxRecDepth 100000 in
theorem impl_TwoPow.calls (k : Nat) (a0_0 : Int) (a0_1 : Int) (a1 : Int) (r1 : Int) (r2 : Int) (w : World) (h : impl_TwoPow.f k a0_0 a0_1 a1 = some (r1, r2)) :
  Calls Try.prog 20 #[.agg #[.int .i64 a0_0, .int .i64 a0_1], .int .i64 a1] w fun e w' => e = .returned (.agg #[.int .i64 r1, .int .i64 r2]) ∧ Below w.heap.size w w' := by
 have hu31 := Try.underlying31
 have HB := Aside0.mk (Below.refl w.heap.size w)
 have H : (if a1 < 0 then (some (0, 0)) else (impl_TwoPow.l0 k a1 a0_0 a0_1 1 0)) = some (r1, r2) := h
 clear h
 by_cases c3 : a1 < 0
 ·rw [if_pos c3] at H
  have c3b0 : decide (a1 < 0) = true := decide_eq_true c3
  clear c3
  simp only [Option.some.injEq, Prod.mk.injEq] at H
  obtain ⟨rfl, rfl⟩ := H
  go_enter Try.func20, Try.ntmps20
  go_wp2_with (first | ((with_reducible refine gate_dst (N := 2) rfl ?_); refine bE 2 #[.int .i64 a0_0, .int .i64 a0_1] 31 ?_; intro gb720 hg w4 hbox hb; have BK720 := Aside0.mk (hbox); have GW720 := bG HB hg; have GE720 := bG HB hg; replace HB := bS HB hb; clear hb hbox hg) | ((with_reducible refine gate_dst (N := 4) rfl ?_); refine bE 4 #[.int .i64 0, .int .i64 0] 31 ?_; intro gb721 hg w5 hbox hb; have BK721 := Aside0.mk (hbox); have GW721 := bG HB hg; have GE721 := bG HB hg; replace HB := bS HB hb; have NB720_721 := bL BK720 hg; have NB721_720 := bR BK720 hg; replace BK720 := bB BK720 hb; clear hb hbox hg; obtain ⟨hnb6, hnc6⟩ := nB NB721_720; obtain ⟨hcz7_0, hcz7_1, hfz7_0, hfz7_1⟩ := bK2 (w := w5) BK721))
  refine rC gb721 31 #[.int .i64 0, .int .i64 0] (bU BK721) Try.underlying31 ?_
  exact ⟨rR, bZ HB⟩
 ·rw [if_neg c3] at H
  have c3b0 : decide (a1 < 0) = false := decide_eq_false c3
  clear c3
  have H' := Aside0.mk H
  clear H
  go_enter Try.func20, Try.ntmps20
  go_wp2_with (first | ((with_reducible refine gate_dst (N := 2) rfl ?_); refine bE 2 #[.int .i64 a0_0, .int .i64 a0_1] 31 ?_; intro gb720 hg w8 hbox hb; have BK720 := Aside0.mk (hbox); have GW720 := bG HB hg; have GE720 := bG HB hg; replace HB := bS HB hb; clear hb hbox hg) | ((with_reducible refine gate_dst (N := 4) rfl ?_); refine bE 4 #[.int .i64 0, .int .i64 0] 31 ?_; intro gb721 hg w9 hbox hb; have BK721 := Aside0.mk (hbox); have GW721 := bG HB hg; have GE721 := bG HB hg; replace HB := bS HB hb; have NB720_721 := bL BK720 hg; have NB721_720 := bR BK720 hg; replace BK720 := bB BK720 hb; clear hb hbox hg) | ((with_reducible refine gate_dst (N := 5) rfl ?_); refine bE 5 #[.int .i64 0, .int .i64 0] 31 ?_; intro gb722 hg w10 hbox hb; have BK722 := Aside0.mk (hbox); have GW722 := bG HB hg; have GE722 := bG HB hg; replace HB := bS HB hb; have NB720_722 := bL BK720 hg; have NB722_720 := bR BK720 hg; replace BK720 := bB BK720 hb; have NB721_722 := bL BK721 hg; have NB722_721 := bR BK721 hg; replace BK721 := bB BK721 hb; clear hb hbox hg; obtain ⟨hnb11, hnc11⟩ := nB NB722_720; obtain ⟨hnb12, hnc12⟩ := nB NB722_721; obtain ⟨hcz13_0, hcz13_1, hfz13_0, hfz13_1⟩ := bK2 (w := w10) BK722))
  go_loopg [1] k (fun kq v1 w' => ∃ (x1_1 : Int) (x721000_1 : Int) (x721001_1 : Int) (x723000_1 : Int) (x723001_1 : Int), v1 = .int .i64 x1_1 ∧ Aside0 (impl_TwoPow.l0 kq x1_1 x721000_1 x721001_1 x723000_1 x723001_1 = some (r1, r2)) ∧ Aside0 (kq ≤ k) ∧ Aside0 (w'.heap[gb720]? = some (.cells #[.int .i64 x721000_1, .int .i64 x721001_1] 31 (0, 0))) ∧ Aside0 (w'.heap[gb721]? = some (.cells #[.int .i64 0, .int .i64 0] 31 (0, 0))) ∧ Aside0 (w'.heap[gb722]? = some (.cells #[.int .i64 x723000_1, .int .i64 x723001_1] 31 (0, 0))) ∧ Aside0 (Below w.heap.size w w'))
  case atStart => exact ⟨(a1), (a0_0), (a0_1), (1), (0), rS, H', ⟨Nat.le_refl _⟩, ⟨bP BK720⟩, ⟨bP BK721⟩, ⟨bU BK722⟩, ⟨bZ HB⟩⟩
  case round =>
   clear H'
   try clear c1
   try clear c2
   try clear p2
   try clear c3
   try clear c3b0
   try clear c6
   try clear c11
   try clear c12
   try clear hcz13_0
   try clear hcz13_1
   try clear hcz7_0
   try clear hcz7_1
   try clear hfz13_0
   try clear hfz13_1
   try clear hfz7_0
   try clear hfz7_1
   obtain ⟨x1_1, x721000_1, x721001_1, x723000_1, x723001_1, rfl, HA, HK1, BK720, BK721, BK722, HB⟩ := hrel
   cases gk with
   | zero => exact absurd HA.out (by simp [impl_TwoPow.l0])
   | succ k1 =>
    have H := HA.out
    clear HA
    simp only [impl_TwoPow.l0] at H
    by_cases c14 : x1_1 > 0
    ·rw [if_pos c14] at H
     have c14b0 : decide (0 < x1_1) = true := decide_eq_true c14
     clear c14
     by_cases c15 : (Int.tmod x1_1 2) = 1
     ·rw [if_pos c15] at H
      have c15b0 : ((Int.tmod x1_1 2) == 1) = true := beq_iff_eq.mpr c15
      have c15b1 : ((Int.tmod x1_1 2) != 1) = false := bne_eq_false_iff_eq.mpr c15
      clear c15
      replace H := Option.bind_eq_some_iff.mp H
      obtain ⟨⟨t723, t724⟩, A160, H⟩ := H
      have A16 := Aside0.mk A160
      clear A160
      replace H := Option.bind_eq_some_iff.mp H
      obtain ⟨⟨t725, t726⟩, A170, H⟩ := H
      have A17 := Aside0.mk A170
      clear A170
      have H' := Aside0.mk H
      clear H
      obtain ⟨hnb18, hnc18⟩ := nB NB722_720
      obtain ⟨hnb19, hnc19⟩ := nB NB722_721
      obtain ⟨hcz20_0, hcz20_1, hfz20_0, hfz20_1⟩ := bK2 (w := wr) BK722
      obtain ⟨hnb21, hnc21⟩ := nB NB720_721
      obtain ⟨hcz22_0, hcz22_1, hfz22_0, hfz22_1⟩ := bK2 (w := wr) BK720
      go_wp2_with (first | ((with_reducible refine gate_callee (f := 21) rfl ?_); refine gL (some 17) Try.func21 #[.agg #[.int .i64 x723000_1, .int .i64 x723001_1], .agg #[.int .i64 x721000_1, .int .i64 x721001_1]] ?_; (with_reducible refine (impl_TwoMul.calls x723000_1 x723001_1 x721000_1 x721001_1 t723 t724 _ A16.out).mono ?_); rintro e w23 ⟨rfl, hb⟩; refine ⟨_, rfl, ?_⟩; replace BK720 := bB BK720 hb; replace BK721 := bB BK721 hb; replace BK722 := bB BK722 hb; replace HB := bS HB hb; (try clear hb); obtain ⟨hcz24_0, hcz24_1, hfz24_0, hfz24_1⟩ := bK2 (w := w23) BK722; obtain ⟨hcz25_0, hcz25_1, hfz25_0, hfz25_1⟩ := bK2 (w := w23) BK720) | ((with_reducible refine gate_callee (f := 21) rfl ?_); refine gL (some 20) Try.func21 #[.agg #[.int .i64 x721000_1, .int .i64 x721001_1], .agg #[.int .i64 x721000_1, .int .i64 x721001_1]] ?_; (with_reducible refine (impl_TwoMul.calls x721000_1 x721001_1 x721000_1 x721001_1 t725 t726 _ A17.out).mono ?_); rintro e w26 ⟨rfl, hb⟩; refine ⟨_, rfl, ?_⟩; replace BK720 := bB BK720 hb; replace BK721 := bB BK721 hb; replace BK722 := bV 31 #[.int .i64 t723, .int .i64 t724] BK722 hb; replace HB := bS HB hb; (try clear hb); obtain ⟨hcz27_0, hcz27_1, hfz27_0, hfz27_1⟩ := bK2 (w := w26) BK720))
      go_roundg k1
      case measure => have := HK1.out; omega
      case rel => exact ⟨(wrap64 (Int.tdiv x1_1 2)), (t725), (t726), (t723), (t724), rS, H', ⟨by have := HK1.out; omega⟩, ⟨bU BK720⟩, ⟨bP BK721⟩, ⟨bP BK722⟩, ⟨bZ HB⟩⟩
     ·rw [if_neg c15] at H
      have c15b0 : ((Int.tmod x1_1 2) == 1) = false := beq_eq_false_iff_ne.mpr c15
      have c15b1 : ((Int.tmod x1_1 2) != 1) = true := bne_iff_ne.mpr c15
      replace H := Option.bind_eq_some_iff.mp H
      obtain ⟨⟨t727, t728⟩, A280, H⟩ := H
      have A28 := Aside0.mk A280
      clear A280
      have H' := Aside0.mk H
      clear H
      obtain ⟨hnb29, hnc29⟩ := nB NB720_721
      obtain ⟨hnb30, hnc30⟩ := nB NB720_722
      obtain ⟨hcz31_0, hcz31_1, hfz31_0, hfz31_1⟩ := bK2 (w := wr) BK720
      go_wp2_with (first | ((with_reducible refine gate_callee (f := 21) rfl ?_); refine gL (some 20) Try.func21 #[.agg #[.int .i64 x721000_1, .int .i64 x721001_1], .agg #[.int .i64 x721000_1, .int .i64 x721001_1]] ?_; (with_reducible refine (impl_TwoMul.calls x721000_1 x721001_1 x721000_1 x721001_1 t727 t728 _ A28.out).mono ?_); rintro e w32 ⟨rfl, hb⟩; refine ⟨_, rfl, ?_⟩; replace BK720 := bB BK720 hb; replace BK721 := bB BK721 hb; replace BK722 := bB BK722 hb; replace HB := bS HB hb; (try clear hb); obtain ⟨hcz33_0, hcz33_1, hfz33_0, hfz33_1⟩ := bK2 (w := w32) BK720))
      go_roundg k1
      case measure => have := HK1.out; omega
      case rel => exact ⟨(wrap64 (Int.tdiv x1_1 2)), (t727), (t728), (x723000_1), (x723001_1), rS, H', ⟨by have := HK1.out; omega⟩, ⟨bU BK720⟩, ⟨bP BK721⟩, ⟨bP BK722⟩, ⟨bZ HB⟩⟩
    ·rw [if_neg c14] at H
     have c14b0 : decide (0 < x1_1) = false := decide_eq_false c14
     clear c14
     simp only [Option.some.injEq, Prod.mk.injEq] at H
     obtain ⟨rfl, rfl⟩ := H
     obtain ⟨hnb34, hnc34⟩ := nB NB722_720
     obtain ⟨hnb35, hnc35⟩ := nB NB722_721
     obtain ⟨hcz36_0, hcz36_1, hfz36_0, hfz36_1⟩ := bK2 (w := wr) BK722
     obtain ⟨hnb37, hnc37⟩ := nB NB721_720
     obtain ⟨hcz38_0, hcz38_1, hfz38_0, hfz38_1⟩ := bK2 (w := wr) BK721
     go_wp2
     refine rC gb721 31 #[.int .i64 x723000_1, .int .i64 x723001_1] (bU BK721) Try.underlying31 ?_
     exact ⟨rR, bZ HB⟩
/-! ### impl_TwoTurn: function 63 -/
def impl_TwoTurn.f (a0_0 : Int) (a0_1 : Int) : Option (Int × Int) := (impl_FpOf.f a0_0).bind fun t769 => ((impl_FpSub.f 0 a0_1).bind fun t770 => (some (t769, t770)))
def impl_TwoTurn.T1 : Bool × List (List Nat × List Nat) := (true, [([], []), ([0], [0]), ([1], [1]), ([], []), ([3], [3]), ([4, 2], [4]), ([2, 5], [2, 5]), ([6, 5, 0, 1, 2, 3, 4, 5, 6], [6])])
def impl_TwoTurn.B1 : List Nat := [0, 1, 3, 0, 8, 31, 63, 127]
theorem impl_TwoTurn.tab1 : rtab .any (opsOf Try.f63 1) = impl_TwoTurn.T1 := by kernel_rfl
theorem impl_TwoTurn.bits1 : waitsOk impl_TwoTurn.T1.2 impl_TwoTurn.B1 = true := by kernel_rfl
set_option maxHeartbeats 8000000 in
set_option maxRecDepth 100000 in
theorem impl_TwoTurn.calls (a0_0 : Int) (a0_1 : Int) (r1 : Int) (r2 : Int) (w : World) (h : impl_TwoTurn.f a0_0 a0_1 = some (r1, r2)) :
  Calls Try.prog 63 #[.agg #[.int .i64 a0_0, .int .i64 a0_1]] w fun e w' => e = .returned (.agg #[.int .i64 r1, .int .i64 r2]) ∧ Below w.heap.size w w' := by
 have hu31 := Try.underlying31
 have HB := Aside0.mk (Below.refl w.heap.size w)
 have H : ((impl_FpOf.f a0_0).bind fun t769 => ((impl_FpSub.f 0 a0_1).bind fun t770 => (some (t769, t770)))) = some (r1, r2) := h
 clear h
 replace H := Option.bind_eq_some_iff.mp H
 obtain ⟨t769, A20, H⟩ := H
 have A2 := Aside0.mk A20
 clear A20
 replace H := Option.bind_eq_some_iff.mp H
 obtain ⟨t770, A30, H⟩ := H
 have A3 := Aside0.mk A30
 clear A30
 simp only [Option.some.injEq, Prod.mk.injEq] at H
 obtain ⟨rfl, rfl⟩ := H
 go_enter Try.func63, Try.ntmps63
 try go_wp2_with (first | ((with_reducible refine gate_dst (N := 1) rfl ?_); refine bE 1 #[.int .i64 a0_0, .int .i64 a0_1] 31 ?_; intro gb767 hg w4 hbox hb; have BK767 := Aside0.mk (hbox); have GW767 := bG HB hg; have GE767 := bG HB hg; replace HB := bS HB hb; clear hb hbox hg) | ((with_reducible refine gate_dst (N := 2) rfl ?_); refine bE 2 #[.int .i64 0, .int .i64 0] 31 ?_; intro gb768 hg w5 hbox hb; have BK768 := Aside0.mk (hbox); have GW768 := bG HB hg; have GE768 := bG HB hg; replace HB := bS HB hb; have NB767_768 := bL BK767 hg; have NB768_767 := bR BK767 hg; replace BK767 := bB BK767 hb; clear hb hbox hg))
 replace BK767 := Aside0.mk (blk_drew BK767.out)
 replace BK768 := Aside0.mk (blk_drew BK768.out)
 replace HB := Aside0.mk (below_drew1 HB.out)
 refine start_ (n := 8) (S := fun w' => SQ2 w' gb767 (.int .i64 a0_0) (.int .i64 a0_1)) (ds := []) #[false, false, false, false, false, false, false, false] (by kernel_rfl) rfl rfl (bT2 BK767) (fun hHeld => ?_); refine with_tabW impl_TwoTurn.tab1 impl_TwoTurn.bits1 (fun HT_ HW_ => ?_)
 generalize w5.drew = w6 at BK767 BK768 HB hHeld ⊢
 refine pI 0 (some 3) HT_.out ?_
 refine pI 3 (some 6) HT_.out ?_
 refine tI2 1 (some 4) HT_.out HW_.out hHeld ?_
 refine tI2 4 (some 7) HT_.out HW_.out hHeld ?_
 refine oI 2 (some 5) HT_.out (fun K hK => ?_)
 refine gO Try.func100 #[.int .i64 a0_0] ?_
 with_reducible refine (impl_FpOf.calls a0_0 t769 _ A2.out).mono ?_
 rintro e w' ⟨rfl, ⟨nd, rfl⟩⟩
 refine ⟨_, rfl, ?_⟩
 refine hK.out _ _ (bT2 BK767) (fun hHeld => ?_)
 clear hK K
 refine nO (some 5) ?_
 refine oI 5 (some 8) HT_.out (fun K hK => ?_)
 refine gO Try.func67 #[.int .i64 0, .int .i64 a0_1] ?_
 with_reducible refine (impl_FpSub.calls 0 a0_1 t770 _ A3.out).mono ?_
 rintro e w' ⟨rfl, ⟨nd, rfl⟩⟩
 refine ⟨_, rfl, ?_⟩
 refine hK.out _ _ (bT2 BK767) (fun hHeld => ?_)
 clear hK K
 refine nO (some 8) ?_
 refine pI 6 (some 9) HT_.out ?_
 refine oI 7 (none) HT_.out (fun K hK => ?_)
 have hs7 : w6.cell? ⟨gb768, 0, none⟩ = some (.int .i64 0) := bc BK768 0
 have hfs7 := blk_frozen BK768.out 0
 obtain ⟨hns7_0, hms7_0⟩ := nB NB767_768
 have hs8 : w6.cell? ⟨gb768, 1, none⟩ = some (.int .i64 0) := bc BK768 1
 have hfs8 := blk_frozen BK768.out 1
 obtain ⟨hns8_0, hms8_0⟩ := nB NB767_768
 refine skip_ (w1 := ?_) (by rfl) rfl ?_ ?_
 rotate_left
 ·go_simp
  rfl
 refine hK.out _ _ ⟨((cell_far (p := ⟨gb768, _, none⟩) NB767_768.out _).trans (((cell_far (p := ⟨gb768, _, none⟩) NB767_768.out _).trans (hHeld.1)))), ((cell_far (p := ⟨gb768, _, none⟩) NB767_768.out _).trans (((cell_far (p := ⟨gb768, _, none⟩) NB767_768.out _).trans (hHeld.2))))⟩ (fun hHeld => ?_)
 clear hK K
 refine done_ (done_of HT_.out (by kernel_rfl)) ?_
 try go_wp2
 refine rC gb768 31 #[.int .i64 t769, .int .i64 t770] (bU BK768) Try.underlying31 ?_
 exact ⟨rR, bZ HB⟩
/-! ### impl_TwoInv: function 64 -/
def impl_TwoInv.f (k : Nat) (a0_0 : Int) (a0_1 : Int) : Option (Int × Int) := (impl_FpMul.f a0_0 a0_0).bind fun t773 => ((impl_FpMul.f a0_1 a0_1).bind fun t774 => ((impl_FpAdd.f t773 t774).bind fun t775 => ((impl_FpInv.f k t775).bind fun t776 => ((impl_FpMul.f a0_0 t776).bind fun t777 => ((impl_FpSub.f 0 a0_1).bind fun t778 => ((impl_FpMul.f t778 t776).bind fun t779 => (some (t777, t779))))))))
theorem impl_TwoInv.mono : ∀ a0 a1 k, LeO (impl_TwoInv.f k a0 a1) (impl_TwoInv.f (k + 1) a0 a1) := by
 intro a0 a1 k
 unfold impl_TwoInv.f
 repeat' first
   | (with_reducible exact impl_FpInv.mono _ _)
   | (with_reducible exact LeO.refl _)
   | (with_reducible exact LeO.none _)
   | (with_reducible refine LeO.ite ?_ ?_)
   | (with_reducible refine LeO.bind ?_ (fun _ => ?_))
   | exact impl_FpInv.mono _ _
   | exact LeO.none _
   | refine LeO.ite ?_ ?_
   | refine LeO.bind ?_ (fun _ => ?_)
def impl_TwoInv.T1 : Bool × List (List Nat × List Nat) := (true, [([], []), ([0], [0]), ([], []), ([2], [2]), ([1, 3], [1, 3]), ([], []), ([5], [5]), ([], []), ([7], [7]), ([6, 8, 4], [6, 8]), ([4, 9, 9], [4, 9]), ([10, 10], [10]), ([11, 11, 0, 1, 2, 3, 4, 5, 6, 7, 8, 9, 10, 11], [11])])
def impl_TwoInv.B1 : List Nat := [0, 1, 0, 4, 15, 0, 32, 0, 128, 511, 1023, 2047, 4095]
theorem impl_TwoInv.tab1 : rtab .any (opsOf Try.f64 1) = impl_TwoInv.T1 := by kernel_rfl
theorem impl_TwoInv.bits1 : waitsOk impl_TwoInv.T1.2 impl_TwoInv.B1 = true := by kernel_rfl
def impl_TwoInv.T2 : Bool × List (List Nat × List Nat) := (true, [([], []), ([0], [0]), ([], []), ([1, 2], [1, 2]), ([], []), ([4], [4]), ([5, 3], [5]), ([], []), ([6, 7, 6], [6, 7]), ([3, 8], [3, 8]), ([9, 8, 0, 1, 2, 3, 4, 5, 6, 7, 8, 9], [9])])
def impl_TwoInv.B2 : List Nat := [0, 1, 0, 7, 0, 16, 63, 0, 255, 511, 1023]
theorem impl_TwoInv.tab2 : rtab .any (opsOf Try.f64 2) = impl_TwoInv.T2 := by kernel_rfl
theorem impl_TwoInv.bits2 : waitsOk impl_TwoInv.T2.2 impl_TwoInv.B2 = true := by kernel_rfl
set_option maxHeartbeats 8000000 in
set_option maxRecDepth 100000 in
theorem impl_TwoInv.calls (k : Nat) (a0_0 : Int) (a0_1 : Int) (r1 : Int) (r2 : Int) (w : World) (h : impl_TwoInv.f k a0_0 a0_1 = some (r1, r2)) :
  Calls Try.prog 64 #[.agg #[.int .i64 a0_0, .int .i64 a0_1]] w fun e w' => e = .returned (.agg #[.int .i64 r1, .int .i64 r2]) ∧ Below w.heap.size w w' := by
 have hu31 := Try.underlying31
 have HB := Aside0.mk (Below.refl w.heap.size w)
 have H : ((impl_FpMul.f a0_0 a0_0).bind fun t773 => ((impl_FpMul.f a0_1 a0_1).bind fun t774 => ((impl_FpAdd.f t773 t774).bind fun t775 => ((impl_FpInv.f k t775).bind fun t776 => ((impl_FpMul.f a0_0 t776).bind fun t777 => ((impl_FpSub.f 0 a0_1).bind fun t778 => ((impl_FpMul.f t778 t776).bind fun t779 => (some (t777, t779))))))))) = some (r1, r2) := h
 clear h
 replace H := Option.bind_eq_some_iff.mp H
 obtain ⟨t773, A20, H⟩ := H
 have A2 := Aside0.mk A20
 clear A20
 replace H := Option.bind_eq_some_iff.mp H
 obtain ⟨t774, A30, H⟩ := H
 have A3 := Aside0.mk A30
 clear A30
 replace H := Option.bind_eq_some_iff.mp H
 obtain ⟨t775, A40, H⟩ := H
 have A4 := Aside0.mk A40
 clear A40
 replace H := Option.bind_eq_some_iff.mp H
 obtain ⟨t776, A50, H⟩ := H
 have A5 := Aside0.mk A50
 clear A50
 replace H := Option.bind_eq_some_iff.mp H
 obtain ⟨t777, A60, H⟩ := H
 have A6 := Aside0.mk A60
 clear A60
 replace H := Option.bind_eq_some_iff.mp H
 obtain ⟨t778, A70, H⟩ := H
 have A7 := Aside0.mk A70
 clear A70
 replace H := Option.bind_eq_some_iff.mp H
 obtain ⟨t779, A80, H⟩ := H
 have A8 := Aside0.mk A80
 clear A80
 simp only [Option.some.injEq, Prod.mk.injEq] at H
 obtain ⟨rfl, rfl⟩ := H
 go_enter Try.func64, Try.ntmps64
 try go_wp2_with (first | ((with_reducible refine gate_dst (N := 1) rfl ?_); refine bE 1 #[.int .i64 a0_0, .int .i64 a0_1] 31 ?_; intro gb771 hg w9 hbox hb; have BK771 := Aside0.mk (hbox); have GW771 := bG HB hg; have GE771 := bG HB hg; replace HB := bS HB hb; clear hb hbox hg) | ((with_reducible refine gate_dst (N := 2) rfl ?_); refine bE 2 #[.int .i64 0, .int .i64 0] 31 ?_; intro gb772 hg w10 hbox hb; have BK772 := Aside0.mk (hbox); have GW772 := bG HB hg; have GE772 := bG HB hg; replace HB := bS HB hb; have NB771_772 := bL BK771 hg; have NB772_771 := bR BK771 hg; replace BK771 := bB BK771 hb; clear hb hbox hg))
 replace BK771 := Aside0.mk (blk_drew BK771.out)
 replace BK772 := Aside0.mk (blk_drew BK772.out)
 replace HB := Aside0.mk (below_drew1 HB.out)
 refine start_ (n := 13) (S := fun w' => SQ2 w' gb771 (.int .i64 a0_0) (.int .i64 a0_1)) (ds := []) #[false, false, false, false, false, false, false, false, false, false, false, false, false] (by kernel_rfl) rfl rfl (bT2 BK771) (fun hHeld => ?_); refine with_tabW impl_TwoInv.tab1 impl_TwoInv.bits1 (fun HT_ HW_ => ?_)
 generalize w10.drew = w11 at BK771 BK772 HB hHeld ⊢
 refine pI 0 (some 4) HT_.out ?_
 refine pI 2 (some 6) HT_.out ?_
 refine pI 5 (some 9) HT_.out ?_
 refine pI 7 (some 11) HT_.out ?_
 refine tI2 1 (some 5) HT_.out HW_.out hHeld ?_
 refine tI2 3 (some 7) HT_.out HW_.out hHeld ?_
 refine tI2 6 (some 10) HT_.out HW_.out hHeld ?_
 refine tI2 8 (some 12) HT_.out HW_.out hHeld ?_
 refine oI 4 (some 8) HT_.out (fun K hK => ?_)
 refine gO Try.func68 #[.int .i64 a0_0, .int .i64 a0_0] ?_
 with_reducible refine (impl_FpMul.calls a0_0 a0_0 t773 _ A2.out).mono ?_
 rintro e w' ⟨rfl, ⟨nd, rfl⟩⟩
 refine ⟨_, rfl, ?_⟩
 refine hK.out _ _ (bT2 BK771) (fun hHeld => ?_)
 clear hK K
 refine nO (some 8) ?_
 refine oI 9 (some 13) HT_.out (fun K hK => ?_)
 refine gO Try.func68 #[.int .i64 a0_1, .int .i64 a0_1] ?_
 with_reducible refine (impl_FpMul.calls a0_1 a0_1 t774 _ A3.out).mono ?_
 rintro e w' ⟨rfl, ⟨nd, rfl⟩⟩
 refine ⟨_, rfl, ?_⟩
 refine hK.out _ _ (bT2 BK771) (fun hHeld => ?_)
 clear hK K
 refine nO (some 13) ?_
 refine oI 10 (some 14) HT_.out (fun K hK => ?_)
 refine gO Try.func69 #[.int .i64 t773, .int .i64 t774] ?_
 with_reducible refine (impl_FpAdd.calls t773 t774 t775 _ A4.out).mono ?_
 rintro e w' ⟨rfl, ⟨nd, rfl⟩⟩
 refine ⟨_, rfl, ?_⟩
 refine hK.out _ _ (bT2 BK771) (fun hHeld => ?_)
 clear hK K
 refine nO (some 14) ?_
 refine oI 11 (some 15) HT_.out (fun K hK => ?_)
 refine gO Try.func101 #[.int .i64 t775] ?_
 with_reducible refine (impl_FpInv.calls k t775 t776 _ A5.out).mono ?_
 rintro e w' ⟨rfl, ⟨nd, rfl⟩⟩
 refine ⟨_, rfl, ?_⟩
 refine hK.out _ _ (bT2 BK771) (fun hHeld => ?_)
 clear hK K
 refine nO (some 15) ?_
 refine pI 12 (some 3) HT_.out ?_
 refine done_ (done_of HT_.out (by kernel_rfl)) ?_
 try go_wp2
 (try simp only [World.drewN_drewN]); (try (rw [drewN_self w11]; generalize hq_ : World.drewN w11 _ = w11; replace BK771 : Aside0 (w11.heap[gb771]? = some (.cells #[.int .i64 a0_0, .int .i64 a0_1] 31 (0, 0))) := ⟨by rw [← hq_]; exact (bP BK771)⟩; replace BK772 : Aside0 (w11.heap[gb772]? = some (.cells #[.int .i64 0, .int .i64 0] 31 (0, 0))) := ⟨by rw [← hq_]; exact (bP BK772)⟩; replace HB : Aside0 (Below w.heap.size w w11) := ⟨by rw [← hq_]; exact (bZ HB)⟩; clear hq_))
 replace BK771 := Aside0.mk (blk_drew BK771.out)
 replace BK772 := Aside0.mk (blk_drew BK772.out)
 replace HB := Aside0.mk (below_drew1 HB.out)
 refine start_ (n := 11) (S := fun w' => SQ2 w' gb771 (.int .i64 a0_0) (.int .i64 a0_1)) (ds := []) #[false, false, false, false, false, false, false, false, false, false, false] (by kernel_rfl) rfl rfl (bT2 BK771) (fun hHeld => ?_); refine with_tabW impl_TwoInv.tab2 impl_TwoInv.bits2 (fun HT_ HW_ => ?_)
 generalize w11.drew = w12 at BK771 BK772 HB hHeld ⊢
 refine pI 0 (some 16) HT_.out ?_
 refine pI 2 (some 18) HT_.out ?_
 refine pI 4 (some 20) HT_.out ?_
 refine pI 7 (some 23) HT_.out ?_
 refine tI2 1 (some 17) HT_.out HW_.out hHeld ?_
 refine tI2 5 (some 21) HT_.out HW_.out hHeld ?_
 refine oI 3 (some 19) HT_.out (fun K hK => ?_)
 refine gO Try.func68 #[.int .i64 a0_0, .int .i64 t776] ?_
 with_reducible refine (impl_FpMul.calls a0_0 t776 t777 _ A6.out).mono ?_
 rintro e w' ⟨rfl, ⟨nd, rfl⟩⟩
 refine ⟨_, rfl, ?_⟩
 refine hK.out _ _ (bT2 BK771) (fun hHeld => ?_)
 clear hK K
 refine nO (some 19) ?_
 refine oI 6 (some 22) HT_.out (fun K hK => ?_)
 refine gO Try.func67 #[.int .i64 0, .int .i64 a0_1] ?_
 with_reducible refine (impl_FpSub.calls 0 a0_1 t778 _ A7.out).mono ?_
 rintro e w' ⟨rfl, ⟨nd, rfl⟩⟩
 refine ⟨_, rfl, ?_⟩
 refine hK.out _ _ (bT2 BK771) (fun hHeld => ?_)
 clear hK K
 refine nO (some 22) ?_
 refine oI 8 (some 24) HT_.out (fun K hK => ?_)
 refine gO Try.func68 #[.int .i64 t778, .int .i64 t776] ?_
 with_reducible refine (impl_FpMul.calls t778 t776 t779 _ A8.out).mono ?_
 rintro e w' ⟨rfl, ⟨nd, rfl⟩⟩
 refine ⟨_, rfl, ?_⟩
 refine hK.out _ _ (bT2 BK771) (fun hHeld => ?_)
 clear hK K
 refine nO (some 24) ?_
 refine pI 9 (some 25) HT_.out ?_
 refine oI 10 (none) HT_.out (fun K hK => ?_)
 have hs13 : w12.cell? ⟨gb772, 0, none⟩ = some (.int .i64 0) := bc BK772 0
 have hfs13 := blk_frozen BK772.out 0
 obtain ⟨hns13_0, hms13_0⟩ := nB NB771_772
 have hs14 : w12.cell? ⟨gb772, 1, none⟩ = some (.int .i64 0) := bc BK772 1
 have hfs14 := blk_frozen BK772.out 1
 obtain ⟨hns14_0, hms14_0⟩ := nB NB771_772
 refine skip_ (w1 := ?_) (by rfl) rfl ?_ ?_
 rotate_left
 ·go_simp
  rfl
 refine hK.out _ _ ⟨((cell_far (p := ⟨gb772, _, none⟩) NB771_772.out _).trans (((cell_far (p := ⟨gb772, _, none⟩) NB771_772.out _).trans (hHeld.1)))), ((cell_far (p := ⟨gb772, _, none⟩) NB771_772.out _).trans (((cell_far (p := ⟨gb772, _, none⟩) NB771_772.out _).trans (hHeld.2))))⟩ (fun hHeld => ?_)
 clear hK K
 refine done_ (done_of HT_.out (by kernel_rfl)) ?_
 try go_wp2
 refine rC gb772 31 #[.int .i64 t777, .int .i64 t779] (bU BK772) Try.underlying31 ?_
 exact ⟨rR, bZ HB⟩
/-! ### impl_Pairing: function 17 -/
def impl_Pairing.j0 : Nat → Bool → Int → Int → Bool → Int → Int → Bool → Option (Int × Int)
 | 0, _, _, _, _, _, _, _ => none
 | k + 1, x21, x781000, x781001, x781002, x782000, x782001, x782002 => if x21 = true then (some (1, 0)) else ((impl_Miller.f k x781000 x781001 x781002 x782000 x782001 x782002).bind fun bt785 => ((impl_TwoTurn.f bt785.1 bt785.2).bind fun bt788 => ((impl_TwoInv.f k bt785.1 bt785.2).bind fun bt790 => ((impl_TwoMul.f bt788.1 bt788.2 bt790.1 bt790.2).bind fun bt792 => ((impl_TwoPow.f k bt792.1 bt792.2 12).bind fun bt794 => (some (bt794.1, bt794.2)))))))
def impl_Pairing.f (k : Nat) (a0_0 : Int) (a0_1 : Int) (a0_2 : Bool) (a1_0 : Int) (a1_1 : Int) (a1_2 : Bool) : Option (Int × Int) := if a0_2 = true then (impl_Pairing.j0 k true a0_0 a0_1 a0_2 a1_0 a1_1 a1_2) else (if a1_2 = true then (impl_Pairing.j0 k true a0_0 a0_1 a0_2 a1_0 a1_1 a1_2) else ((impl_InGroup.f k a0_0 a0_1 a0_2).bind fun t783 => (if t783 = true then ((impl_InGroup.f k a1_0 a1_1 a1_2).bind fun t784 => (impl_Pairing.j0 k (!t784) a0_0 a0_1 a0_2 a1_0 a1_1 a1_2)) else (impl_Pairing.j0 k true a0_0 a0_1 a0_2 a1_0 a1_1 a1_2))))
theorem impl_Pairing.mono_l : ∀ k, (∀ y0 y1 y2 y3 y4 y5 y6, LeO (impl_Pairing.j0 k y0 y1 y2 y3 y4 y5 y6) (impl_Pairing.j0 (k + 1) y0 y1 y2 y3 y4 y5 y6))
 | 0 => fun _ _ _ _ _ _ _ r h => by simp [impl_Pairing.j0] at h
 | k + 1 => by
  have ih0 := impl_Pairing.mono_l k
  ·intro y0 y1 y2 y3 y4 y5 y6
   unfold impl_Pairing.j0
   repeat' first
   | (with_reducible exact ih0 _ _ _ _ _ _ _)
   | (with_reducible exact impl_InGroup.mono _ _ _ _)
   | (with_reducible exact impl_Miller.mono _ _ _ _ _ _ _)
   | (with_reducible exact impl_TwoInv.mono _ _ _)
   | (with_reducible exact impl_TwoPow.mono _ _ _ _)
   | (with_reducible exact LeO.refl _)
   | (with_reducible exact LeO.none _)
   | (with_reducible refine LeO.ite ?_ ?_)
   | (with_reducible refine LeO.bind ?_ (fun _ => ?_))
   | exact ih0 _ _ _ _ _ _ _
   | exact impl_InGroup.mono _ _ _ _
   | exact impl_Miller.mono _ _ _ _ _ _ _
   | exact impl_TwoInv.mono _ _ _
   | exact impl_TwoPow.mono _ _ _ _
   | exact LeO.none _
   | refine LeO.ite ?_ ?_
   | refine LeO.bind ?_ (fun _ => ?_)
theorem impl_Pairing.mono : ∀ a0 a1 a2 a3 a4 a5 k, LeO (impl_Pairing.f k a0 a1 a2 a3 a4 a5) (impl_Pairing.f (k + 1) a0 a1 a2 a3 a4 a5) := by
 intro a0 a1 a2 a3 a4 a5 k
 have ih0 := impl_Pairing.mono_l k
 unfold impl_Pairing.f
 repeat' first
   | (with_reducible exact ih0 _ _ _ _ _ _ _)
   | (with_reducible exact impl_InGroup.mono _ _ _ _)
   | (with_reducible exact impl_Miller.mono _ _ _ _ _ _ _)
   | (with_reducible exact impl_TwoInv.mono _ _ _)
   | (with_reducible exact impl_TwoPow.mono _ _ _ _)
   | (with_reducible exact LeO.refl _)
   | (with_reducible exact LeO.none _)
   | (with_reducible refine LeO.ite ?_ ?_)
   | (with_reducible refine LeO.bind ?_ (fun _ => ?_))
   | exact ih0 _ _ _ _ _ _ _
   | exact impl_InGroup.mono _ _ _ _
   | exact impl_Miller.mono _ _ _ _ _ _ _
   | exact impl_TwoInv.mono _ _ _
   | exact impl_TwoPow.mono _ _ _ _
   | exact LeO.none _
   | refine LeO.ite ?_ ?_
   | refine LeO.bind ?_ (fun _ => ?_)
set_option maxHeartbeats 8000000 in
set_option maxRecDepth 100000 in
theorem impl_Pairing.calls (k : Nat) (a0_0 : Int) (a0_1 : Int) (a0_2 : Bool) (a1_0 : Int) (a1_1 : Int) (a1_2 : Bool) (r1 : Int) (r2 : Int) (w : World) (h : impl_Pairing.f k a0_0 a0_1 a0_2 a1_0 a1_1 a1_2 = some (r1, r2)) :
  Calls Try.prog 17 #[.agg #[.int .i64 a0_0, .int .i64 a0_1, .bool a0_2], .agg #[.int .i64 a1_0, .int .i64 a1_1, .bool a1_2]] w fun e w' => e = .returned (.agg #[.int .i64 r1, .int .i64 r2]) ∧ Below w.heap.size w w' := by
 have hu25 := Try.underlying25
 have hu31 := Try.underlying31
 have HB := Aside0.mk (Below.refl w.heap.size w)
 have H : (if a0_2 = true then (impl_Pairing.j0 k true a0_0 a0_1 a0_2 a1_0 a1_1 a1_2) else (if a1_2 = true then (impl_Pairing.j0 k true a0_0 a0_1 a0_2 a1_0 a1_1 a1_2) else ((impl_InGroup.f k a0_0 a0_1 a0_2).bind fun t783 => (if t783 = true then ((impl_InGroup.f k a1_0 a1_1 a1_2).bind fun t784 => (impl_Pairing.j0 k (!t784) a0_0 a0_1 a0_2 a1_0 a1_1 a1_2)) else (impl_Pairing.j0 k true a0_0 a0_1 a0_2 a1_0 a1_1 a1_2))))) = some (r1, r2) := h
 clear h
 have HC3 := Aside0.mk H
 clear H
 go_enter Try.func17, Try.ntmps17
 go_upto_region 1 with (first | ((with_reducible refine gate_dst (N := 2) rfl ?_); refine bE 2 #[.int .i64 a0_0, .int .i64 a0_1, .bool a0_2] 25 ?_; intro gb780 hg w4 hbox hb; have BK780 := Aside0.mk (hbox); have GW780 := bG HB hg; have GE780 := bG HB hg; replace HB := bS HB hb; clear hb hbox hg) | ((with_reducible refine gate_dst (N := 3) rfl ?_); refine bE 3 #[.int .i64 a1_0, .int .i64 a1_1, .bool a1_2] 25 ?_; intro gb781 hg w5 hbox hb; have BK781 := Aside0.mk (hbox); have GW781 := bG HB hg; have GE781 := bG HB hg; replace HB := bS HB hb; have NB780_781 := bL BK780 hg; have NB781_780 := bR BK780 hg; replace BK780 := bB BK780 hb; clear hb hbox hg) | ((with_reducible refine gate_dst (N := 4) rfl ?_); refine bE 4 #[.int .i64 0, .int .i64 0] 31 ?_; intro gb782 hg w6 hbox hb; have BK782 := Aside0.mk (hbox); have GW782 := bG HB hg; have GE782 := bG HB hg; replace HB := bS HB hb; have NB780_782 := bL BK780 hg; have NB782_780 := bR BK780 hg; replace BK780 := bB BK780 hb; have NB781_782 := bL BK781 hg; have NB782_781 := bR BK781 hg; replace BK781 := bB BK781 hb; clear hb hbox hg))
 (try simp only [Act.put, List.setIfInBounds_toArray, List.set_cons_zero, List.set_cons_succ])
 go_cut [21] (fun v21 wc => ∃ (kq : Nat) (x21_2 : Bool), v21 = .bool x21_2 ∧ Aside0 (impl_Pairing.j0 kq x21_2 a0_0 a0_1 a0_2 a1_0 a1_1 a1_2 = some (r1, r2)) ∧ Aside0 (kq ≤ k) ∧ Aside0 (wc.heap[gb780]? = some (.cells #[.int .i64 a0_0, .int .i64 a0_1, .bool a0_2] 25 (0, 0))) ∧ Aside0 (wc.heap[gb781]? = some (.cells #[.int .i64 a1_0, .int .i64 a1_1, .bool a1_2] 25 (0, 0))) ∧ Aside0 (wc.heap[gb782]? = some (.cells #[.int .i64 0, .int .i64 0] 31 (0, 0))) ∧ Aside0 (Below w.heap.size w wc))
 case first =>
  have H := HC3.out
  clear HC3
  by_cases c7 : a0_2 = true
  ·subst c7
   rw [if_pos rfl] at H
   have H' := Aside0.mk H
   clear H
   obtain ⟨hnb8, hnc8⟩ := nB NB780_781
   obtain ⟨hnb9, hnc9⟩ := nB NB780_782
   obtain ⟨hcz10_0, hcz10_1, hcz10_2, hfz10_0, hfz10_1, hfz10_2⟩ := bK3 (w := w6) BK780
   go_wp2
   go_meet
   case rel => exact ⟨_, (true), rS, H', ⟨by first | omega | exact Nat.le_refl _⟩, ⟨bP BK780⟩, ⟨bP BK781⟩, ⟨bP BK782⟩, ⟨bZ HB⟩⟩
  ·replace c7 := Bool.eq_false_iff.mpr c7
   subst c7
   rw [if_neg (show ¬ (false = true) by decide)] at H
   by_cases c11 : a1_2 = true
   ·subst c11
    rw [if_pos rfl] at H
    have H' := Aside0.mk H
    clear H
    obtain ⟨hnb12, hnc12⟩ := nB NB780_781
    obtain ⟨hnb13, hnc13⟩ := nB NB780_782
    obtain ⟨hcz14_0, hcz14_1, hcz14_2, hfz14_0, hfz14_1, hfz14_2⟩ := bK3 (w := w6) BK780
    obtain ⟨hnb15, hnc15⟩ := nB NB781_782
    obtain ⟨hcz16_0, hcz16_1, hcz16_2, hfz16_0, hfz16_1, hfz16_2⟩ := bK3 (w := w6) BK781
    go_wp2
    go_meet
    case rel => exact ⟨_, (true), rS, H', ⟨by first | omega | exact Nat.le_refl _⟩, ⟨bP BK780⟩, ⟨bP BK781⟩, ⟨bP BK782⟩, ⟨bZ HB⟩⟩
   ·replace c11 := Bool.eq_false_iff.mpr c11
    subst c11
    rw [if_neg (show ¬ (false = true) by decide)] at H
    replace H := Option.bind_eq_some_iff.mp H
    obtain ⟨t783, A170, H⟩ := H
    have A17 := Aside0.mk A170
    clear A170
    by_cases c18 : t783 = true
    ·subst c18
     rw [if_pos rfl] at H
     replace H := Option.bind_eq_some_iff.mp H
     obtain ⟨t784, A190, H⟩ := H
     have A19 := Aside0.mk A190
     clear A190
     have H' := Aside0.mk H
     clear H
     obtain ⟨hnb20, hnc20⟩ := nB NB780_781
     obtain ⟨hnb21, hnc21⟩ := nB NB780_782
     obtain ⟨hcz22_0, hcz22_1, hcz22_2, hfz22_0, hfz22_1, hfz22_2⟩ := bK3 (w := w6) BK780
     obtain ⟨hnb23, hnc23⟩ := nB NB781_782
     obtain ⟨hcz24_0, hcz24_1, hcz24_2, hfz24_0, hfz24_1, hfz24_2⟩ := bK3 (w := w6) BK781
     go_wp2_with (first | (go_at_call 51; (with_reducible refine (impl_InGroup.calls k a0_0 a0_1 false true _ A17.out).mono ?_); rintro e w25 ⟨rfl, hb⟩; replace BK780 := bB BK780 hb; replace BK781 := bB BK781 hb; replace BK782 := bB BK782 hb; replace HB := bS HB hb; (try clear hb); obtain ⟨hcz26_0, hcz26_1, hcz26_2, hfz26_0, hfz26_1, hfz26_2⟩ := bK3 (w := w25) BK781) | (go_at_call 51; (with_reducible refine (impl_InGroup.calls k a1_0 a1_1 false t784 _ A19.out).mono ?_); rintro e w27 ⟨rfl, hb⟩; replace BK780 := bB BK780 hb; replace BK781 := bB BK781 hb; replace BK782 := bB BK782 hb; replace HB := bS HB hb; (try clear hb)))
     go_meet
     case rel => exact ⟨_, (!t784), rS, H', ⟨by first | omega | exact Nat.le_refl _⟩, ⟨bP BK780⟩, ⟨bP BK781⟩, ⟨bP BK782⟩, ⟨bZ HB⟩⟩
    ·replace c18 := Bool.eq_false_iff.mpr c18
     subst c18
     rw [if_neg (show ¬ (false = true) by decide)] at H
     have H' := Aside0.mk H
     clear H
     obtain ⟨hnb28, hnc28⟩ := nB NB780_781
     obtain ⟨hnb29, hnc29⟩ := nB NB780_782
     obtain ⟨hcz30_0, hcz30_1, hcz30_2, hfz30_0, hfz30_1, hfz30_2⟩ := bK3 (w := w6) BK780
     obtain ⟨hnb31, hnc31⟩ := nB NB781_782
     obtain ⟨hcz32_0, hcz32_1, hcz32_2, hfz32_0, hfz32_1, hfz32_2⟩ := bK3 (w := w6) BK781
     go_wp2_with (first | (go_at_call 51; (with_reducible refine (impl_InGroup.calls k a0_0 a0_1 false false _ A17.out).mono ?_); rintro e w33 ⟨rfl, hb⟩; replace BK780 := bB BK780 hb; replace BK781 := bB BK781 hb; replace BK782 := bB BK782 hb; replace HB := bS HB hb; (try clear hb)))
     go_meet
     case rel => exact ⟨_, (true), rS, H', ⟨by first | omega | exact Nat.le_refl _⟩, ⟨bP BK780⟩, ⟨bP BK781⟩, ⟨bP BK782⟩, ⟨bZ HB⟩⟩
 case rest =>
  clear HC3
  try clear c1
  try clear c2
  try clear p2
  try clear c3
  try clear c7
  try clear c8
  try clear c9
  try clear c11
  try clear c12
  try clear c13
  try clear c15
  try clear c17
  try clear c18
  try clear c20
  try clear c21
  try clear c23
  try clear c28
  try clear c29
  try clear c31
  try clear hcz10_0
  try clear hcz10_1
  try clear hcz10_2
  try clear hcz14_0
  try clear hcz14_1
  try clear hcz14_2
  try clear hcz16_0
  try clear hcz16_1
  try clear hcz16_2
  try clear hcz22_0
  try clear hcz22_1
  try clear hcz22_2
  try clear hcz24_0
  try clear hcz24_1
  try clear hcz24_2
  try clear hcz26_0
  try clear hcz26_1
  try clear hcz26_2
  try clear hcz30_0
  try clear hcz30_1
  try clear hcz30_2
  try clear hcz32_0
  try clear hcz32_1
  try clear hcz32_2
  try clear hfz10_0
  try clear hfz10_1
  try clear hfz10_2
  try clear hfz14_0
  try clear hfz14_1
  try clear hfz14_2
  try clear hfz16_0
  try clear hfz16_1
  try clear hfz16_2
  try clear hfz22_0
  try clear hfz22_1
  try clear hfz22_2
  try clear hfz24_0
  try clear hfz24_1
  try clear hfz24_2
  try clear hfz26_0
  try clear hfz26_1
  try clear hfz26_2
  try clear hfz30_0
  try clear hfz30_1
  try clear hfz30_2
  try clear hfz32_0
  try clear hfz32_1
  try clear hfz32_2
  obtain ⟨kq, x21_2, rfl, HA, HJ2, BK780, BK781, BK782, HB⟩ := hcut
  cases kq with
  | zero => exact absurd HA.out (by simp [impl_Pairing.j0])
  | succ kj2 =>
   have H := HA.out
   clear HA
   simp only [impl_Pairing.j0] at H
   by_cases c34 : x21_2 = true
   ·subst c34
    rw [if_pos rfl] at H
    simp only [Option.some.injEq, Prod.mk.injEq] at H
    obtain ⟨rfl, rfl⟩ := H
    obtain ⟨hnb35, hnc35⟩ := nB NB782_780
    obtain ⟨hnb36, hnc36⟩ := nB NB782_781
    obtain ⟨hcz37_0, hcz37_1, hfz37_0, hfz37_1⟩ := bK2 (w := wc) BK782
    go_wp2
    refine rC gb782 31 #[.int .i64 1, .int .i64 0] (bU BK782) Try.underlying31 ?_
    exact ⟨rR, bZ HB⟩
   ·replace c34 := Bool.eq_false_iff.mpr c34
    subst c34
    rw [if_neg (show ¬ (false = true) by decide)] at H
    replace H := Option.bind_eq_some_iff.mp H
    obtain ⟨⟨t785, t786⟩, A380, H⟩ := H
    have A38 := Aside0.mk A380
    clear A380
    replace H := Option.bind_eq_some_iff.mp H
    obtain ⟨⟨t788, t789⟩, A390, H⟩ := H
    have A39 := Aside0.mk A390
    clear A390
    replace H := Option.bind_eq_some_iff.mp H
    obtain ⟨⟨t790, t791⟩, A400, H⟩ := H
    have A40 := Aside0.mk A400
    clear A400
    replace H := Option.bind_eq_some_iff.mp H
    obtain ⟨⟨t792, t793⟩, A410, H⟩ := H
    have A41 := Aside0.mk A410
    clear A410
    replace H := Option.bind_eq_some_iff.mp H
    obtain ⟨⟨t794, t795⟩, A420, H⟩ := H
    have A42 := Aside0.mk A420
    clear A420
    simp only [Option.some.injEq, Prod.mk.injEq] at H
    obtain ⟨rfl, rfl⟩ := H
    obtain ⟨hnb43, hnc43⟩ := nB NB780_781
    obtain ⟨hnb44, hnc44⟩ := nB NB780_782
    obtain ⟨hcz45_0, hcz45_1, hcz45_2, hfz45_0, hfz45_1, hfz45_2⟩ := bK3 (w := wc) BK780
    obtain ⟨hnb46, hnc46⟩ := nB NB781_782
    obtain ⟨hcz47_0, hcz47_1, hcz47_2, hfz47_0, hfz47_1, hfz47_2⟩ := bK3 (w := wc) BK781
    try go_wp2_with (first | ((with_reducible refine gate_callee (f := 40) rfl ?_); refine gL (some 25) Try.func40 #[.agg #[.int .i64 a0_0, .int .i64 a0_1, .bool a0_2], .agg #[.int .i64 a1_0, .int .i64 a1_1, .bool a1_2]] ?_; (with_reducible refine (impl_Miller.calls kj2 a0_0 a0_1 a0_2 a1_0 a1_1 a1_2 t785 t786 _ A38.out).mono ?_); rintro e w48 ⟨rfl, hb⟩; refine ⟨_, rfl, ?_⟩; replace BK780 := bB BK780 hb; replace BK781 := bB BK781 hb; replace BK782 := bB BK782 hb; replace HB := bS HB hb; (try clear hb)) | ((with_reducible refine gate_dst (N := 5) rfl ?_); refine bE 5 #[.int .i64 0, .int .i64 0] 31 ?_; intro gb787 hg w49 hbox hb; have BK787 := Aside0.mk (hbox); have GW787 := bG HB hg; have GE787 := bG HB hg; replace HB := bS HB hb; have NB780_787 := bL BK780 hg; have NB787_780 := bR BK780 hg; replace BK780 := bB BK780 hb; have NB781_787 := bL BK781 hg; have NB787_781 := bR BK781 hg; replace BK781 := bB BK781 hb; have NB782_787 := bL BK782 hg; have NB787_782 := bR BK782 hg; replace BK782 := bB BK782 hb; clear hb hbox hg; obtain ⟨hnb50, hnc50⟩ := nB NB787_780; obtain ⟨hnb51, hnc51⟩ := nB NB787_781; obtain ⟨hnb52, hnc52⟩ := nB NB787_782; obtain ⟨hcz53_0, hcz53_1, hfz53_0, hfz53_1⟩ := bK2 (w := w49) BK787))
    obtain ⟨w54, hW_⟩ : ∃ W_ : World, W_ = ((w49.setCell ⟨gb787, 0, none⟩ (.int .i64 t785)).setCell ⟨gb787, 1, none⟩ (.int .i64 t786)) := ⟨_, rfl⟩
    replace BK780 := bW hW_ BK780
    replace BK781 := bW hW_ BK781
    replace BK782 := bW hW_ BK782
    replace BK787 := bX hW_ 31 #[.int .i64 t785, .int .i64 t786] BK787
    replace HB := zW hW_ HB
    rw [← hW_]
    clear hW_
    replace BK780 := Aside0.mk (blk_drew BK780.out)
    replace BK781 := Aside0.mk (blk_drew BK781.out)
    replace BK782 := Aside0.mk (blk_drew BK782.out)
    replace BK787 := Aside0.mk (blk_drew BK787.out)
    replace HB := Aside0.mk (below_drew1 HB.out)
    refine start_ (n := 7) (S := fun w' => SQ2 w' gb787 (.int .i64 t785) (.int .i64 t786)) (ds := []) #[false, false, false, false, false, false, false] (by kernel_rfl) rfl rfl (bT2 BK787) (fun hHeld => ?_)
    generalize w54.drew = w55 at BK780 BK781 BK782 BK787 HB hHeld ⊢
    refine take_ (i := 0) (N := some 26) (v := ?_) (a' := ?_) #[true, false, false, false, false, false, false] rfl rfl (by kernel_rfl) (fun _ _ _ h => h) (Or.inl ⟨by rfl, ?_⟩) hHeld ?_ ?_
    rotate_left
    ·rintro w' ⟨s0, s1⟩
     go_simp
     with_reducible rfl
    rotate_left
    ·simp only [Act.put, List.setIfInBounds_toArray, List.set_cons_zero, List.set_cons_succ, i64_w, i32_w]
     rfl
    refine take_ (i := 2) (N := some 28) (v := ?_) (a' := ?_) #[true, false, true, false, false, false, false] rfl rfl (by kernel_rfl) (fun _ _ _ h => h) (Or.inl ⟨by rfl, ?_⟩) hHeld ?_ ?_
    rotate_left
    ·rintro w' ⟨s0, s1⟩
     go_simp
     with_reducible rfl
    rotate_left
    ·simp only [Act.put, List.setIfInBounds_toArray, List.set_cons_zero, List.set_cons_succ, i64_w, i32_w]
     rfl
    refine one_ (i := 1) (N := some 27) #[true, true, true, false, false, false, false] rfl rfl (by kernel_rfl) (by decide) (fun K hK => ?_)
    refine gO Try.func63 #[.agg #[.int .i64 t785, .int .i64 t786]] ?_
    with_reducible refine (impl_TwoTurn.calls t785 t786 t788 t789 _ A39.out).mono ?_
    rintro e w56 ⟨rfl, hb⟩
    refine ⟨_, rfl, ?_⟩
    replace BK780 := bB BK780 hb
    replace BK781 := bB BK781 hb
    replace BK782 := bB BK782 hb
    replace BK787 := bB BK787 hb
    replace HB := bS HB hb
    (try clear hb)
    refine hK.out _ _ (bT2 BK787) (fun hHeld => ?_)
    clear hK K
    refine nO (some 27) ?_
    refine one_ (i := 3) (N := some 29) #[true, true, true, true, false, false, false] rfl rfl (by kernel_rfl) (by decide) (fun K hK => ?_)
    refine gO Try.func64 #[.agg #[.int .i64 t785, .int .i64 t786]] ?_
    with_reducible refine (impl_TwoInv.calls kj2 t785 t786 t790 t791 _ A40.out).mono ?_
    rintro e w57 ⟨rfl, hb⟩
    refine ⟨_, rfl, ?_⟩
    replace BK780 := bB BK780 hb
    replace BK781 := bB BK781 hb
    replace BK782 := bB BK782 hb
    replace BK787 := bB BK787 hb
    replace HB := bS HB hb
    (try clear hb)
    refine hK.out _ _ (bT2 BK787) (fun hHeld => ?_)
    clear hK K
    refine nO (some 29) ?_
    refine one_ (i := 4) (N := some 30) #[true, true, true, true, true, false, false] rfl rfl (by kernel_rfl) (by decide) (fun K hK => ?_)
    refine gO Try.func21 #[.agg #[.int .i64 t788, .int .i64 t789], .agg #[.int .i64 t790, .int .i64 t791]] ?_
    with_reducible refine (impl_TwoMul.calls t788 t789 t790 t791 t792 t793 _ A41.out).mono ?_
    rintro e w58 ⟨rfl, hb⟩
    refine ⟨_, rfl, ?_⟩
    replace BK780 := bB BK780 hb
    replace BK781 := bB BK781 hb
    replace BK782 := bB BK782 hb
    replace BK787 := bB BK787 hb
    replace HB := bS HB hb
    (try clear hb)
    refine hK.out _ _ (bT2 BK787) (fun hHeld => ?_)
    clear hK K
    refine nO (some 30) ?_
    refine one_ (i := 5) (N := some 31) #[true, true, true, true, true, true, false] rfl rfl (by kernel_rfl) (by decide) (fun K hK => ?_)
    refine gO Try.func20 #[.agg #[.int .i64 t792, .int .i64 t793], .int .i64 12] ?_
    with_reducible refine (impl_TwoPow.calls kj2 t792 t793 12 t794 t795 _ A42.out).mono ?_
    rintro e w59 ⟨rfl, hb⟩
    refine ⟨_, rfl, ?_⟩
    replace BK780 := bB BK780 hb
    replace BK781 := bB BK781 hb
    replace BK782 := bB BK782 hb
    replace BK787 := bB BK787 hb
    replace HB := bS HB hb
    (try clear hb)
    refine hK.out _ _ (bT2 BK787) (fun hHeld => ?_)
    clear hK K
    refine nO (some 31) ?_
    refine one_ (i := 6) (N := none) #[true, true, true, true, true, true, true] rfl rfl (by kernel_rfl) (by decide) (fun K hK => ?_)
    have hs60 : w59.cell? ⟨gb782, 0, none⟩ = some (.int .i64 0) := bc BK782 0
    have hfs60 := blk_frozen BK782.out 0
    have hns60_0 := NB780_782.out
    have hns60_1 := NB781_782.out
    have hns60_3 := NB787_782.out
    have hms60_0 := NB782_780.out
    have hms60_1 := NB782_781.out
    have hms60_3 := NB782_787.out
    have hs61 : w59.cell? ⟨gb782, 1, none⟩ = some (.int .i64 0) := bc BK782 1
    have hfs61 := blk_frozen BK782.out 1
    have hns61_0 := NB780_782.out
    have hns61_1 := NB781_782.out
    have hns61_3 := NB787_782.out
    have hms61_0 := NB782_780.out
    have hms61_1 := NB782_781.out
    have hms61_3 := NB782_787.out
    refine skip_ (w1 := ?_) (by rfl) rfl ?_ ?_
    rotate_left
    ·go_simp
     rfl
    refine hK.out _ _ ⟨((cell_far (p := ⟨gb782, _, none⟩) NB787_782.out _).trans (((cell_far (p := ⟨gb782, _, none⟩) NB787_782.out _).trans (hHeld.1)))), ((cell_far (p := ⟨gb782, _, none⟩) NB787_782.out _).trans (((cell_far (p := ⟨gb782, _, none⟩) NB787_782.out _).trans (hHeld.2))))⟩ (fun hHeld => ?_)
    clear hK K
    refine done_ (by kernel_rfl) ?_
    try go_wp2
    refine rC gb782 31 #[.int .i64 t794, .int .i64 t795] (bU BK782) Try.underlying31 ?_
    exact ⟨rR, bZ HB⟩
/-! ### spec_PairLine: function 23 -/
def spec_PairLine.j0 : Nat → Bool → Int → Int → Bool → Int → Int → Bool → Int → Int → Bool → Int → Int → Option (Int × Int)
 | 0, _, _, _, _, _, _, _, _, _, _, _, _ => none
 | k + 1, x36, x797000, x797001, x797002, x798000, x798001, x798002, x799000, x799001, x799002, x801000, x801001 => if x36 = true then (some (x801000, x801001)) else ((spec_l07Slope.f k x797000 x797001 x797002 x798000 x798001 x798002).bind fun bt804 => (if bt804.2 = true then ((spec_FpSub.f 0 x799000).bind fun t806 => ((spec_FpSub.f t806 x797000).bind fun t807 => ((spec_FpSub.f 0 x797001).bind fun t808 => ((spec_FpMul.f bt804.1 t807).bind fun t809 => ((spec_FpSub.f t808 t809).bind fun t810 => (some (t810, x799001))))))) else (some (x801000, x801001))))
def spec_PairLine.f (k : Nat) (a0_0 : Int) (a0_1 : Int) (a0_2 : Bool) (a1_0 : Int) (a1_1 : Int) (a1_2 : Bool) (a2_0 : Int) (a2_1 : Int) (a2_2 : Bool) : Option (Int × Int) := if a0_2 = true then (spec_PairLine.j0 k true a0_0 a0_1 a0_2 a1_0 a1_1 a1_2 a2_0 a2_1 a2_2 1 0) else (if a1_2 = true then (spec_PairLine.j0 k true a0_0 a0_1 a0_2 a1_0 a1_1 a1_2 a2_0 a2_1 a2_2 1 0) else (if a2_2 = true then (spec_PairLine.j0 k true a0_0 a0_1 a0_2 a1_0 a1_1 a1_2 a2_0 a2_1 a2_2 1 0) else ((spec_PointOk.f a0_0 a0_1 a0_2).bind fun t801 => (if t801 = true then ((spec_PointOk.f a1_0 a1_1 a1_2).bind fun t802 => (if t802 = true then ((spec_PointOk.f a2_0 a2_1 a2_2).bind fun t803 => (spec_PairLine.j0 k (!t803) a0_0 a0_1 a0_2 a1_0 a1_1 a1_2 a2_0 a2_1 a2_2 1 0)) else (spec_PairLine.j0 k true a0_0 a0_1 a0_2 a1_0 a1_1 a1_2 a2_0 a2_1 a2_2 1 0))) else (spec_PairLine.j0 k true a0_0 a0_1 a0_2 a1_0 a1_1 a1_2 a2_0 a2_1 a2_2 1 0)))))
theorem spec_PairLine.mono_l : ∀ k, (∀ y0 y1 y2 y3 y4 y5 y6 y7 y8 y9 y10 y11, LeO (spec_PairLine.j0 k y0 y1 y2 y3 y4 y5 y6 y7 y8 y9 y10 y11) (spec_PairLine.j0 (k + 1) y0 y1 y2 y3 y4 y5 y6 y7 y8 y9 y10 y11))
 | 0 => fun _ _ _ _ _ _ _ _ _ _ _ _ r h => by simp [spec_PairLine.j0] at h
 | k + 1 => by
  have ih0 := spec_PairLine.mono_l k
  ·intro y0 y1 y2 y3 y4 y5 y6 y7 y8 y9 y10 y11
   unfold spec_PairLine.j0
   repeat' first
   | (with_reducible exact ih0 _ _ _ _ _ _ _ _ _ _ _ _)
   | (with_reducible exact spec_l07Slope.mono _ _ _ _ _ _ _)
   | (with_reducible exact LeO.refl _)
   | (with_reducible exact LeO.none _)
   | (with_reducible refine LeO.ite ?_ ?_)
   | (with_reducible refine LeO.bind ?_ (fun _ => ?_))
   | exact ih0 _ _ _ _ _ _ _ _ _ _ _ _
   | exact spec_l07Slope.mono _ _ _ _ _ _ _
   | exact LeO.none _
   | refine LeO.ite ?_ ?_
   | refine LeO.bind ?_ (fun _ => ?_)
theorem spec_PairLine.mono : ∀ a0 a1 a2 a3 a4 a5 a6 a7 a8 k, LeO (spec_PairLine.f k a0 a1 a2 a3 a4 a5 a6 a7 a8) (spec_PairLine.f (k + 1) a0 a1 a2 a3 a4 a5 a6 a7 a8) := by
 intro a0 a1 a2 a3 a4 a5 a6 a7 a8 k
 have ih0 := spec_PairLine.mono_l k
 unfold spec_PairLine.f
 repeat' first
   | (with_reducible exact ih0 _ _ _ _ _ _ _ _ _ _ _ _)
   | (with_reducible exact spec_l07Slope.mono _ _ _ _ _ _ _)
   | (with_reducible exact LeO.refl _)
   | (with_reducible exact LeO.none _)
   | (with_reducible refine LeO.ite ?_ ?_)
   | (with_reducible refine LeO.bind ?_ (fun _ => ?_))
   | exact ih0 _ _ _ _ _ _ _ _ _ _ _ _
   | exact spec_l07Slope.mono _ _ _ _ _ _ _
   | exact LeO.none _
   | refine LeO.ite ?_ ?_
   | refine LeO.bind ?_ (fun _ => ?_)
def spec_PairLine.T8 : Bool × List (List Nat × List Nat) := (true, [([], []), ([0], [0]), ([1], [1]), ([], []), ([], []), ([3, 4, 2], [3, 4]), ([2, 5, 5], [2, 5]), ([], []), ([7], [7]), ([6, 8], [6, 8]), ([9, 6, 0, 1, 2, 3, 4, 5, 6, 7, 8, 9], [9])])
def spec_PairLine.B8 : List Nat := [0, 1, 3, 0, 0, 31, 63, 0, 128, 511, 1023]
theorem spec_PairLine.tab8 : rtab .any (opsOf Try.f23 8) = spec_PairLine.T8 := by kernel_rfl
theorem spec_PairLine.bits8 : waitsOk spec_PairLine.T8.2 spec_PairLine.B8 = true := by kernel_rfl
set_option maxHeartbeats 8000000 in
set_option maxRecDepth 100000 in
theorem spec_PairLine.calls (k : Nat) (a0_0 : Int) (a0_1 : Int) (a0_2 : Bool) (a1_0 : Int) (a1_1 : Int) (a1_2 : Bool) (a2_0 : Int) (a2_1 : Int) (a2_2 : Bool) (r1 : Int) (r2 : Int) (w : World) (h : spec_PairLine.f k a0_0 a0_1 a0_2 a1_0 a1_1 a1_2 a2_0 a2_1 a2_2 = some (r1, r2)) :
  Calls Try.prog 23 #[.agg #[.int .i64 a0_0, .int .i64 a0_1, .bool a0_2], .agg #[.int .i64 a1_0, .int .i64 a1_1, .bool a1_2], .agg #[.int .i64 a2_0, .int .i64 a2_1, .bool a2_2]] w fun e w' => e = .returned (.agg #[.int .i64 r1, .int .i64 r2]) ∧ Below w.heap.size w w' := by
 have hu25 := Try.underlying25
 have hu31 := Try.underlying31
 have HB := Aside0.mk (Below.refl w.heap.size w)
 have H : (if a0_2 = true then (spec_PairLine.j0 k true a0_0 a0_1 a0_2 a1_0 a1_1 a1_2 a2_0 a2_1 a2_2 1 0) else (if a1_2 = true then (spec_PairLine.j0 k true a0_0 a0_1 a0_2 a1_0 a1_1 a1_2 a2_0 a2_1 a2_2 1 0) else (if a2_2 = true then (spec_PairLine.j0 k true a0_0 a0_1 a0_2 a1_0 a1_1 a1_2 a2_0 a2_1 a2_2 1 0) else ((spec_PointOk.f a0_0 a0_1 a0_2).bind fun t801 => (if t801 = true then ((spec_PointOk.f a1_0 a1_1 a1_2).bind fun t802 => (if t802 = true then ((spec_PointOk.f a2_0 a2_1 a2_2).bind fun t803 => (spec_PairLine.j0 k (!t803) a0_0 a0_1 a0_2 a1_0 a1_1 a1_2 a2_0 a2_1 a2_2 1 0)) else (spec_PairLine.j0 k true a0_0 a0_1 a0_2 a1_0 a1_1 a1_2 a2_0 a2_1 a2_2 1 0))) else (spec_PairLine.j0 k true a0_0 a0_1 a0_2 a1_0 a1_1 a1_2 a2_0 a2_1 a2_2 1 0)))))) = some (r1, r2) := h
 clear h
 have HC4 := Aside0.mk H
 clear H
 go_enter Try.func23, Try.ntmps23
 go_upto_region 2 with (first | ((with_reducible refine gate_dst (N := 3) rfl ?_); refine bE 3 #[.int .i64 a0_0, .int .i64 a0_1, .bool a0_2] 25 ?_; intro gb796 hg w5 hbox hb; have BK796 := Aside0.mk (hbox); have GW796 := bG HB hg; have GE796 := bG HB hg; replace HB := bS HB hb; clear hb hbox hg) | ((with_reducible refine gate_dst (N := 4) rfl ?_); refine bE 4 #[.int .i64 a1_0, .int .i64 a1_1, .bool a1_2] 25 ?_; intro gb797 hg w6 hbox hb; have BK797 := Aside0.mk (hbox); have GW797 := bG HB hg; have GE797 := bG HB hg; replace HB := bS HB hb; have NB796_797 := bL BK796 hg; have NB797_796 := bR BK796 hg; replace BK796 := bB BK796 hb; clear hb hbox hg) | ((with_reducible refine gate_dst (N := 5) rfl ?_); refine bE 5 #[.int .i64 a2_0, .int .i64 a2_1, .bool a2_2] 25 ?_; intro gb798 hg w7 hbox hb; have BK798 := Aside0.mk (hbox); have GW798 := bG HB hg; have GE798 := bG HB hg; replace HB := bS HB hb; have NB796_798 := bL BK796 hg; have NB798_796 := bR BK796 hg; replace BK796 := bB BK796 hb; have NB797_798 := bL BK797 hg; have NB798_797 := bR BK797 hg; replace BK797 := bB BK797 hb; clear hb hbox hg) | ((with_reducible refine gate_dst (N := 6) rfl ?_); refine bE 6 #[.int .i64 0, .int .i64 0] 31 ?_; intro gb799 hg w8 hbox hb; have BK799 := Aside0.mk (hbox); have GW799 := bG HB hg; have GE799 := bG HB hg; replace HB := bS HB hb; have NB796_799 := bL BK796 hg; have NB799_796 := bR BK796 hg; replace BK796 := bB BK796 hb; have NB797_799 := bL BK797 hg; have NB799_797 := bR BK797 hg; replace BK797 := bB BK797 hb; have NB798_799 := bL BK798 hg; have NB799_798 := bR BK798 hg; replace BK798 := bB BK798 hb; clear hb hbox hg) | ((with_reducible refine gate_dst (N := 7) rfl ?_); refine bE 7 #[.int .i64 0, .int .i64 0] 31 ?_; intro gb800 hg w9 hbox hb; have BK800 := Aside0.mk (hbox); have GW800 := bG HB hg; have GE800 := bG HB hg; replace HB := bS HB hb; have NB796_800 := bL BK796 hg; have NB800_796 := bR BK796 hg; replace BK796 := bB BK796 hb; have NB797_800 := bL BK797 hg; have NB800_797 := bR BK797 hg; replace BK797 := bB BK797 hb; have NB798_800 := bL BK798 hg; have NB800_798 := bR BK798 hg; replace BK798 := bB BK798 hb; have NB799_800 := bL BK799 hg; have NB800_799 := bR BK799 hg; replace BK799 := bB BK799 hb; clear hb hbox hg; obtain ⟨hnb10, hnc10⟩ := nB NB800_796; obtain ⟨hnb11, hnc11⟩ := nB NB800_797; obtain ⟨hnb12, hnc12⟩ := nB NB800_798; obtain ⟨hnb13, hnc13⟩ := nB NB800_799; obtain ⟨hcz14_0, hcz14_1, hfz14_0, hfz14_1⟩ := bK2 (w := w9) BK800))
 (try simp only [Act.put, List.setIfInBounds_toArray, List.set_cons_zero, List.set_cons_succ])
 go_cut [36] (fun v36 wc => ∃ (kq : Nat) (x36_3 : Bool), v36 = .bool x36_3 ∧ Aside0 (spec_PairLine.j0 kq x36_3 a0_0 a0_1 a0_2 a1_0 a1_1 a1_2 a2_0 a2_1 a2_2 1 0 = some (r1, r2)) ∧ Aside0 (kq ≤ k) ∧ Aside0 (wc.heap[gb796]? = some (.cells #[.int .i64 a0_0, .int .i64 a0_1, .bool a0_2] 25 (0, 0))) ∧ Aside0 (wc.heap[gb797]? = some (.cells #[.int .i64 a1_0, .int .i64 a1_1, .bool a1_2] 25 (0, 0))) ∧ Aside0 (wc.heap[gb798]? = some (.cells #[.int .i64 a2_0, .int .i64 a2_1, .bool a2_2] 25 (0, 0))) ∧ Aside0 (wc.heap[gb799]? = some (.cells #[.int .i64 0, .int .i64 0] 31 (0, 0))) ∧ Aside0 (wc.heap[gb800]? = some (.cells #[.int .i64 1, .int .i64 0] 31 (0, 0))) ∧ Aside0 (Below w.heap.size w wc))
 case first =>
  have H := HC4.out
  clear HC4
  by_cases c15 : a0_2 = true
  ·subst c15
   rw [if_pos rfl] at H
   have H' := Aside0.mk H
   clear H
   obtain ⟨hnb16, hnc16⟩ := nB NB796_797
   obtain ⟨hnb17, hnc17⟩ := nB NB796_798
   obtain ⟨hnb18, hnc18⟩ := nB NB796_799
   obtain ⟨hnb19, hnc19⟩ := nB NB796_800
   obtain ⟨hcz20_0, hcz20_1, hcz20_2, hfz20_0, hfz20_1, hfz20_2⟩ := bK3 (w := w9) BK796
   go_wp2
   go_meet
   case rel => exact ⟨_, (true), rS, H', ⟨by first | omega | exact Nat.le_refl _⟩, ⟨bP BK796⟩, ⟨bP BK797⟩, ⟨bP BK798⟩, ⟨bP BK799⟩, ⟨bU BK800⟩, ⟨bZ HB⟩⟩
  ·replace c15 := Bool.eq_false_iff.mpr c15
   subst c15
   rw [if_neg (show ¬ (false = true) by decide)] at H
   by_cases c21 : a1_2 = true
   ·subst c21
    rw [if_pos rfl] at H
    have H' := Aside0.mk H
    clear H
    obtain ⟨hnb22, hnc22⟩ := nB NB796_797
    obtain ⟨hnb23, hnc23⟩ := nB NB796_798
    obtain ⟨hnb24, hnc24⟩ := nB NB796_799
    obtain ⟨hnb25, hnc25⟩ := nB NB796_800
    obtain ⟨hcz26_0, hcz26_1, hcz26_2, hfz26_0, hfz26_1, hfz26_2⟩ := bK3 (w := w9) BK796
    obtain ⟨hnb27, hnc27⟩ := nB NB797_798
    obtain ⟨hnb28, hnc28⟩ := nB NB797_799
    obtain ⟨hnb29, hnc29⟩ := nB NB797_800
    obtain ⟨hcz30_0, hcz30_1, hcz30_2, hfz30_0, hfz30_1, hfz30_2⟩ := bK3 (w := w9) BK797
    go_wp2
    go_meet
    case rel => exact ⟨_, (true), rS, H', ⟨by first | omega | exact Nat.le_refl _⟩, ⟨bP BK796⟩, ⟨bP BK797⟩, ⟨bP BK798⟩, ⟨bP BK799⟩, ⟨bU BK800⟩, ⟨bZ HB⟩⟩
   ·replace c21 := Bool.eq_false_iff.mpr c21
    subst c21
    rw [if_neg (show ¬ (false = true) by decide)] at H
    by_cases c31 : a2_2 = true
    ·subst c31
     rw [if_pos rfl] at H
     have H' := Aside0.mk H
     clear H
     obtain ⟨hnb32, hnc32⟩ := nB NB796_797
     obtain ⟨hnb33, hnc33⟩ := nB NB796_798
     obtain ⟨hnb34, hnc34⟩ := nB NB796_799
     obtain ⟨hnb35, hnc35⟩ := nB NB796_800
     obtain ⟨hcz36_0, hcz36_1, hcz36_2, hfz36_0, hfz36_1, hfz36_2⟩ := bK3 (w := w9) BK796
     obtain ⟨hnb37, hnc37⟩ := nB NB797_798
     obtain ⟨hnb38, hnc38⟩ := nB NB797_799
     obtain ⟨hnb39, hnc39⟩ := nB NB797_800
     obtain ⟨hcz40_0, hcz40_1, hcz40_2, hfz40_0, hfz40_1, hfz40_2⟩ := bK3 (w := w9) BK797
     obtain ⟨hnb41, hnc41⟩ := nB NB798_799
     obtain ⟨hnb42, hnc42⟩ := nB NB798_800
     obtain ⟨hcz43_0, hcz43_1, hcz43_2, hfz43_0, hfz43_1, hfz43_2⟩ := bK3 (w := w9) BK798
     go_wp2
     go_meet
     case rel => exact ⟨_, (true), rS, H', ⟨by first | omega | exact Nat.le_refl _⟩, ⟨bP BK796⟩, ⟨bP BK797⟩, ⟨bP BK798⟩, ⟨bP BK799⟩, ⟨bU BK800⟩, ⟨bZ HB⟩⟩
    ·replace c31 := Bool.eq_false_iff.mpr c31
     subst c31
     rw [if_neg (show ¬ (false = true) by decide)] at H
     replace H := Option.bind_eq_some_iff.mp H
     obtain ⟨t801, A440, H⟩ := H
     have A44 := Aside0.mk A440
     clear A440
     by_cases c45 : t801 = true
     ·subst c45
      rw [if_pos rfl] at H
      replace H := Option.bind_eq_some_iff.mp H
      obtain ⟨t802, A460, H⟩ := H
      have A46 := Aside0.mk A460
      clear A460
      by_cases c47 : t802 = true
      ·subst c47
       rw [if_pos rfl] at H
       replace H := Option.bind_eq_some_iff.mp H
       obtain ⟨t803, A480, H⟩ := H
       have A48 := Aside0.mk A480
       clear A480
       have H' := Aside0.mk H
       clear H
       obtain ⟨hnb49, hnc49⟩ := nB NB796_797
       obtain ⟨hnb50, hnc50⟩ := nB NB796_798
       obtain ⟨hnb51, hnc51⟩ := nB NB796_799
       obtain ⟨hnb52, hnc52⟩ := nB NB796_800
       obtain ⟨hcz53_0, hcz53_1, hcz53_2, hfz53_0, hfz53_1, hfz53_2⟩ := bK3 (w := w9) BK796
       obtain ⟨hnb54, hnc54⟩ := nB NB797_798
       obtain ⟨hnb55, hnc55⟩ := nB NB797_799
       obtain ⟨hnb56, hnc56⟩ := nB NB797_800
       obtain ⟨hcz57_0, hcz57_1, hcz57_2, hfz57_0, hfz57_1, hfz57_2⟩ := bK3 (w := w9) BK797
       obtain ⟨hnb58, hnc58⟩ := nB NB798_799
       obtain ⟨hnb59, hnc59⟩ := nB NB798_800
       obtain ⟨hcz60_0, hcz60_1, hcz60_2, hfz60_0, hfz60_1, hfz60_2⟩ := bK3 (w := w9) BK798
       go_wp2_with (first | (go_at_call 55; (with_reducible refine (spec_PointOk.calls a0_0 a0_1 false true _ A44.out).mono ?_); rintro e w61 ⟨rfl, hb⟩; replace BK796 := bB BK796 hb; replace BK797 := bB BK797 hb; replace BK798 := bB BK798 hb; replace BK799 := bB BK799 hb; replace BK800 := bV 31 #[.int .i64 1, .int .i64 0] BK800 hb; replace HB := bS HB hb; (try clear hb); obtain ⟨hcz62_0, hcz62_1, hcz62_2, hfz62_0, hfz62_1, hfz62_2⟩ := bK3 (w := w61) BK797) | (go_at_call 55; (with_reducible refine (spec_PointOk.calls a1_0 a1_1 false true _ A46.out).mono ?_); rintro e w63 ⟨rfl, hb⟩; replace BK796 := bB BK796 hb; replace BK797 := bB BK797 hb; replace BK798 := bB BK798 hb; replace BK799 := bB BK799 hb; replace BK800 := bB BK800 hb; replace HB := bS HB hb; (try clear hb); obtain ⟨hcz64_0, hcz64_1, hcz64_2, hfz64_0, hfz64_1, hfz64_2⟩ := bK3 (w := w63) BK798) | (go_at_call 55; (with_reducible refine (spec_PointOk.calls a2_0 a2_1 false t803 _ A48.out).mono ?_); rintro e w65 ⟨rfl, hb⟩; replace BK796 := bB BK796 hb; replace BK797 := bB BK797 hb; replace BK798 := bB BK798 hb; replace BK799 := bB BK799 hb; replace BK800 := bB BK800 hb; replace HB := bS HB hb; (try clear hb)))
       go_meet
       case rel => exact ⟨_, (!t803), rS, H', ⟨by first | omega | exact Nat.le_refl _⟩, ⟨bP BK796⟩, ⟨bP BK797⟩, ⟨bP BK798⟩, ⟨bP BK799⟩, ⟨bP BK800⟩, ⟨bZ HB⟩⟩
      ·replace c47 := Bool.eq_false_iff.mpr c47
       subst c47
       rw [if_neg (show ¬ (false = true) by decide)] at H
       have H' := Aside0.mk H
       clear H
       obtain ⟨hnb66, hnc66⟩ := nB NB796_797
       obtain ⟨hnb67, hnc67⟩ := nB NB796_798
       obtain ⟨hnb68, hnc68⟩ := nB NB796_799
       obtain ⟨hnb69, hnc69⟩ := nB NB796_800
       obtain ⟨hcz70_0, hcz70_1, hcz70_2, hfz70_0, hfz70_1, hfz70_2⟩ := bK3 (w := w9) BK796
       obtain ⟨hnb71, hnc71⟩ := nB NB797_798
       obtain ⟨hnb72, hnc72⟩ := nB NB797_799
       obtain ⟨hnb73, hnc73⟩ := nB NB797_800
       obtain ⟨hcz74_0, hcz74_1, hcz74_2, hfz74_0, hfz74_1, hfz74_2⟩ := bK3 (w := w9) BK797
       obtain ⟨hnb75, hnc75⟩ := nB NB798_799
       obtain ⟨hnb76, hnc76⟩ := nB NB798_800
       obtain ⟨hcz77_0, hcz77_1, hcz77_2, hfz77_0, hfz77_1, hfz77_2⟩ := bK3 (w := w9) BK798
       go_wp2_with (first | (go_at_call 55; (with_reducible refine (spec_PointOk.calls a0_0 a0_1 false true _ A44.out).mono ?_); rintro e w78 ⟨rfl, hb⟩; replace BK796 := bB BK796 hb; replace BK797 := bB BK797 hb; replace BK798 := bB BK798 hb; replace BK799 := bB BK799 hb; replace BK800 := bV 31 #[.int .i64 1, .int .i64 0] BK800 hb; replace HB := bS HB hb; (try clear hb); obtain ⟨hcz79_0, hcz79_1, hcz79_2, hfz79_0, hfz79_1, hfz79_2⟩ := bK3 (w := w78) BK797) | (go_at_call 55; (with_reducible refine (spec_PointOk.calls a1_0 a1_1 false false _ A46.out).mono ?_); rintro e w80 ⟨rfl, hb⟩; replace BK796 := bB BK796 hb; replace BK797 := bB BK797 hb; replace BK798 := bB BK798 hb; replace BK799 := bB BK799 hb; replace BK800 := bB BK800 hb; replace HB := bS HB hb; (try clear hb)))
       go_meet
       case rel => exact ⟨_, (true), rS, H', ⟨by first | omega | exact Nat.le_refl _⟩, ⟨bP BK796⟩, ⟨bP BK797⟩, ⟨bP BK798⟩, ⟨bP BK799⟩, ⟨bP BK800⟩, ⟨bZ HB⟩⟩
     ·replace c45 := Bool.eq_false_iff.mpr c45
      subst c45
      rw [if_neg (show ¬ (false = true) by decide)] at H
      have H' := Aside0.mk H
      clear H
      obtain ⟨hnb81, hnc81⟩ := nB NB796_797
      obtain ⟨hnb82, hnc82⟩ := nB NB796_798
      obtain ⟨hnb83, hnc83⟩ := nB NB796_799
      obtain ⟨hnb84, hnc84⟩ := nB NB796_800
      obtain ⟨hcz85_0, hcz85_1, hcz85_2, hfz85_0, hfz85_1, hfz85_2⟩ := bK3 (w := w9) BK796
      obtain ⟨hnb86, hnc86⟩ := nB NB797_798
      obtain ⟨hnb87, hnc87⟩ := nB NB797_799
      obtain ⟨hnb88, hnc88⟩ := nB NB797_800
      obtain ⟨hcz89_0, hcz89_1, hcz89_2, hfz89_0, hfz89_1, hfz89_2⟩ := bK3 (w := w9) BK797
      obtain ⟨hnb90, hnc90⟩ := nB NB798_799
      obtain ⟨hnb91, hnc91⟩ := nB NB798_800
      obtain ⟨hcz92_0, hcz92_1, hcz92_2, hfz92_0, hfz92_1, hfz92_2⟩ := bK3 (w := w9) BK798
      go_wp2_with (first | (go_at_call 55; (with_reducible refine (spec_PointOk.calls a0_0 a0_1 false false _ A44.out).mono ?_); rintro e w93 ⟨rfl, hb⟩; replace BK796 := bB BK796 hb; replace BK797 := bB BK797 hb; replace BK798 := bB BK798 hb; replace BK799 := bB BK799 hb; replace BK800 := bV 31 #[.int .i64 1, .int .i64 0] BK800 hb; replace HB := bS HB hb; (try clear hb)))
      go_meet
      case rel => exact ⟨_, (true), rS, H', ⟨by first | omega | exact Nat.le_refl _⟩, ⟨bP BK796⟩, ⟨bP BK797⟩, ⟨bP BK798⟩, ⟨bP BK799⟩, ⟨bP BK800⟩, ⟨bZ HB⟩⟩
 case rest =>
  clear HC4
  try clear c1
  try clear c2
  try clear p2
  try clear c3
  try clear c4
  try clear c5
  try clear c6
  try clear c7
  try clear c8
  try clear c9
  try clear c10
  try clear c11
  try clear c12
  try clear c13
  try clear c15
  try clear c16
  try clear c17
  try clear c18
  try clear c19
  try clear c21
  try clear c22
  try clear c23
  try clear c24
  try clear c25
  try clear c27
  try clear c28
  try clear c29
  try clear c31
  try clear c32
  try clear c33
  try clear c34
  try clear c35
  try clear c37
  try clear c38
  try clear c39
  try clear c41
  try clear c42
  try clear c45
  try clear c47
  try clear c49
  try clear c50
  try clear c51
  try clear c52
  try clear c54
  try clear c55
  try clear c56
  try clear c58
  try clear c59
  try clear c66
  try clear c67
  try clear c68
  try clear c69
  try clear c71
  try clear c72
  try clear c73
  try clear c75
  try clear c76
  try clear c81
  try clear c82
  try clear c83
  try clear c84
  try clear c86
  try clear c87
  try clear c88
  try clear c90
  try clear c91
  try clear hcz14_0
  try clear hcz14_1
  try clear hcz20_0
  try clear hcz20_1
  try clear hcz20_2
  try clear hcz26_0
  try clear hcz26_1
  try clear hcz26_2
  try clear hcz30_0
  try clear hcz30_1
  try clear hcz30_2
  try clear hcz36_0
  try clear hcz36_1
  try clear hcz36_2
  try clear hcz40_0
  try clear hcz40_1
  try clear hcz40_2
  try clear hcz43_0
  try clear hcz43_1
  try clear hcz43_2
  try clear hcz53_0
  try clear hcz53_1
  try clear hcz53_2
  try clear hcz57_0
  try clear hcz57_1
  try clear hcz57_2
  try clear hcz60_0
  try clear hcz60_1
  try clear hcz60_2
  try clear hcz62_0
  try clear hcz62_1
  try clear hcz62_2
  try clear hcz64_0
  try clear hcz64_1
  try clear hcz64_2
  try clear hcz70_0
  try clear hcz70_1
  try clear hcz70_2
  try clear hcz74_0
  try clear hcz74_1
  try clear hcz74_2
  try clear hcz77_0
  try clear hcz77_1
  try clear hcz77_2
  try clear hcz79_0
  try clear hcz79_1
  try clear hcz79_2
  try clear hcz85_0
  try clear hcz85_1
  try clear hcz85_2
  try clear hcz89_0
  try clear hcz89_1
  try clear hcz89_2
  try clear hcz92_0
  try clear hcz92_1
  try clear hcz92_2
  try clear hfz14_0
  try clear hfz14_1
  try clear hfz20_0
  try clear hfz20_1
  try clear hfz20_2
  try clear hfz26_0
  try clear hfz26_1
  try clear hfz26_2
  try clear hfz30_0
  try clear hfz30_1
  try clear hfz30_2
  try clear hfz36_0
  try clear hfz36_1
  try clear hfz36_2
  try clear hfz40_0
  try clear hfz40_1
  try clear hfz40_2
  try clear hfz43_0
  try clear hfz43_1
  try clear hfz43_2
  try clear hfz53_0
  try clear hfz53_1
  try clear hfz53_2
  try clear hfz57_0
  try clear hfz57_1
  try clear hfz57_2
  try clear hfz60_0
  try clear hfz60_1
  try clear hfz60_2
  try clear hfz62_0
  try clear hfz62_1
  try clear hfz62_2
  try clear hfz64_0
  try clear hfz64_1
  try clear hfz64_2
  try clear hfz70_0
  try clear hfz70_1
  try clear hfz70_2
  try clear hfz74_0
  try clear hfz74_1
  try clear hfz74_2
  try clear hfz77_0
  try clear hfz77_1
  try clear hfz77_2
  try clear hfz79_0
  try clear hfz79_1
  try clear hfz79_2
  try clear hfz85_0
  try clear hfz85_1
  try clear hfz85_2
  try clear hfz89_0
  try clear hfz89_1
  try clear hfz89_2
  try clear hfz92_0
  try clear hfz92_1
  try clear hfz92_2
  obtain ⟨kq, x36_3, rfl, HA, HJ3, BK796, BK797, BK798, BK799, BK800, HB⟩ := hcut
  cases kq with
  | zero => exact absurd HA.out (by simp [spec_PairLine.j0])
  | succ kj3 =>
   have H := HA.out
   clear HA
   simp only [spec_PairLine.j0] at H
   by_cases c94 : x36_3 = true
   ·subst c94
    rw [if_pos rfl] at H
    simp only [Option.some.injEq, Prod.mk.injEq] at H
    obtain ⟨rfl, rfl⟩ := H
    obtain ⟨hnb95, hnc95⟩ := nB NB800_796
    obtain ⟨hnb96, hnc96⟩ := nB NB800_797
    obtain ⟨hnb97, hnc97⟩ := nB NB800_798
    obtain ⟨hnb98, hnc98⟩ := nB NB800_799
    obtain ⟨hcz99_0, hcz99_1, hfz99_0, hfz99_1⟩ := bK2 (w := wc) BK800
    obtain ⟨hnb100, hnc100⟩ := nB NB799_796
    obtain ⟨hnb101, hnc101⟩ := nB NB799_797
    obtain ⟨hnb102, hnc102⟩ := nB NB799_798
    obtain ⟨hcz103_0, hcz103_1, hfz103_0, hfz103_1⟩ := bK2 (w := wc) BK799
    go_wp2
    refine rC gb799 31 #[.int .i64 1, .int .i64 0] (bU BK799) Try.underlying31 ?_
    exact ⟨rR, bZ HB⟩
   ·replace c94 := Bool.eq_false_iff.mpr c94
    subst c94
    rw [if_neg (show ¬ (false = true) by decide)] at H
    replace H := Option.bind_eq_some_iff.mp H
    obtain ⟨⟨t804, t805⟩, A1040, H⟩ := H
    have A104 := Aside0.mk A1040
    clear A1040
    by_cases c105 : t805 = true
    ·subst c105
     rw [if_pos rfl] at H
     replace H := Option.bind_eq_some_iff.mp H
     obtain ⟨t806, A1060, H⟩ := H
     have A106 := Aside0.mk A1060
     clear A1060
     replace H := Option.bind_eq_some_iff.mp H
     obtain ⟨t807, A1070, H⟩ := H
     have A107 := Aside0.mk A1070
     clear A1070
     replace H := Option.bind_eq_some_iff.mp H
     obtain ⟨t808, A1080, H⟩ := H
     have A108 := Aside0.mk A1080
     clear A1080
     replace H := Option.bind_eq_some_iff.mp H
     obtain ⟨t809, A1090, H⟩ := H
     have A109 := Aside0.mk A1090
     clear A1090
     replace H := Option.bind_eq_some_iff.mp H
     obtain ⟨t810, A1100, H⟩ := H
     have A110 := Aside0.mk A1100
     clear A1100
     simp only [Option.some.injEq, Prod.mk.injEq] at H
     obtain ⟨rfl, rfl⟩ := H
     obtain ⟨hnb111, hnc111⟩ := nB NB796_797
     obtain ⟨hnb112, hnc112⟩ := nB NB796_798
     obtain ⟨hnb113, hnc113⟩ := nB NB796_799
     obtain ⟨hnb114, hnc114⟩ := nB NB796_800
     obtain ⟨hcz115_0, hcz115_1, hcz115_2, hfz115_0, hfz115_1, hfz115_2⟩ := bK3 (w := wc) BK796
     obtain ⟨hnb116, hnc116⟩ := nB NB797_798
     obtain ⟨hnb117, hnc117⟩ := nB NB797_799
     obtain ⟨hnb118, hnc118⟩ := nB NB797_800
     obtain ⟨hcz119_0, hcz119_1, hcz119_2, hfz119_0, hfz119_1, hfz119_2⟩ := bK3 (w := wc) BK797
     try go_wp2_with (first | ((with_reducible refine gate_callee (f := 74) rfl ?_); refine gL (some 41) Try.func74 #[.agg #[.int .i64 a0_0, .int .i64 a0_1, .bool a0_2], .agg #[.int .i64 a1_0, .int .i64 a1_1, .bool a1_2]] ?_; (with_reducible refine (spec_l07Slope.calls kj3 a0_0 a0_1 a0_2 a1_0 a1_1 a1_2 t804 true _ A104.out).mono ?_); rintro e w120 ⟨rfl, hb⟩; refine ⟨_, rfl, ?_⟩; replace BK796 := bB BK796 hb; replace BK797 := bB BK797 hb; replace BK798 := bB BK798 hb; replace BK799 := bB BK799 hb; replace BK800 := bB BK800 hb; replace HB := bS HB hb; (try clear hb)))
     replace BK796 := Aside0.mk (blk_drew BK796.out)
     replace BK797 := Aside0.mk (blk_drew BK797.out)
     replace BK798 := Aside0.mk (blk_drew BK798.out)
     replace BK799 := Aside0.mk (blk_drew BK799.out)
     replace BK800 := Aside0.mk (blk_drew BK800.out)
     replace HB := Aside0.mk (below_drew1 HB.out)
     refine start_ (n := 7) (S := fun w' => SP3 w' gb798 (.int .i64 a2_0) (.int .i64 a2_1) (.bool a2_2) (SQ3 w' gb796 (.int .i64 a0_0) (.int .i64 a0_1) (.bool a0_2))) (ds := []) #[false, false, false, false, false, false, false] (by kernel_rfl) rfl rfl (bS3 BK798 (bT3 BK796)) (fun hHeld => ?_)
     generalize w120.drew = w121 at BK796 BK797 BK798 BK799 BK800 HB hHeld ⊢
     refine pure_ (i := 0) (N := some 47) (v := ?_) (a' := ?_) #[true, false, false, false, false, false, false] rfl rfl (by kernel_rfl) (fun _ _ _ h => h) (Or.inl ⟨by rfl, ?_⟩) ?_ ?_
     rotate_left
     ·intro w'
      go_simp
      with_reducible rfl
     rotate_left
     ·simp only [Act.put, List.setIfInBounds_toArray, List.set_cons_zero, List.set_cons_succ, i64_w, i32_w]
      rfl
     refine pure_ (i := 3) (N := some 50) (v := ?_) (a' := ?_) #[true, false, false, true, false, false, false] rfl rfl (by kernel_rfl) (fun _ _ _ h => h) (Or.inl ⟨by rfl, ?_⟩) ?_ ?_
     rotate_left
     ·intro w'
      go_simp
      with_reducible rfl
     rotate_left
     ·simp only [Act.put, List.setIfInBounds_toArray, List.set_cons_zero, List.set_cons_succ, i64_w, i32_w]
      rfl
     refine take_ (i := 1) (N := some 48) (v := ?_) (a' := ?_) #[true, true, false, true, false, false, false] rfl rfl (by kernel_rfl) (fun _ _ _ h => h) (Or.inl ⟨by rfl, ?_⟩) hHeld ?_ ?_
     rotate_left
     ·rintro w' ⟨s0, s1, s2, s3, s4, s5⟩
      go_simp
      with_reducible rfl
     rotate_left
     ·simp only [Act.put, List.setIfInBounds_toArray, List.set_cons_zero, List.set_cons_succ, i64_w, i32_w]
      rfl
     refine take_ (i := 4) (N := some 51) (v := ?_) (a' := ?_) #[true, true, false, true, true, false, false] rfl rfl (by kernel_rfl) (fun _ _ _ h => h) (Or.inl ⟨by rfl, ?_⟩) hHeld ?_ ?_
     rotate_left
     ·rintro w' ⟨s0, s1, s2, s3, s4, s5⟩
      go_simp
      with_reducible rfl
     rotate_left
     ·simp only [Act.put, List.setIfInBounds_toArray, List.set_cons_zero, List.set_cons_succ, i64_w, i32_w]
      rfl
     refine one_ (i := 2) (N := some 49) #[true, true, true, true, true, false, false] rfl rfl (by kernel_rfl) (by decide) (fun K hK => ?_)
     refine gO Try.func75 #[.int .i64 0, .int .i64 a2_0] ?_
     with_reducible refine (spec_FpSub.calls 0 a2_0 t806 _ A106.out).mono ?_
     rintro e w' ⟨rfl, ⟨nd, rfl⟩⟩
     refine ⟨_, rfl, ?_⟩
     refine hK.out _ _ (bS3 BK798 (bT3 BK796)) (fun hHeld => ?_)
     clear hK K
     refine nO (some 49) ?_
     refine one_ (i := 5) (N := some 52) #[true, true, true, true, true, true, false] rfl rfl (by kernel_rfl) (by decide) (fun K hK => ?_)
     refine gO Try.func75 #[.int .i64 t806, .int .i64 a0_0] ?_
     with_reducible refine (spec_FpSub.calls t806 a0_0 t807 _ A107.out).mono ?_
     rintro e w' ⟨rfl, ⟨nd, rfl⟩⟩
     refine ⟨_, rfl, ?_⟩
     refine hK.out _ _ (bS3 BK798 (bT3 BK796)) (fun hHeld => ?_)
     clear hK K
     refine nO (some 52) ?_
     refine pure_ (i := 6) (N := some 10) (v := ?_) (a' := ?_) #[true, true, true, true, true, true, true] rfl rfl (by kernel_rfl) (fun _ _ _ h => h) (Or.inl ⟨by rfl, ?_⟩) ?_ ?_
     rotate_left
     ·intro w'
      go_simp
      with_reducible rfl
     rotate_left
     ·simp only [Act.put, List.setIfInBounds_toArray, List.set_cons_zero, List.set_cons_succ, i64_w, i32_w]
      rfl
     refine done_ (by kernel_rfl) ?_
     try go_wp2
     (try simp only [World.drewN_drewN]); (try (rw [drewN_self w121]; generalize hq_ : World.drewN w121 _ = w121; replace BK796 : Aside0 (w121.heap[gb796]? = some (.cells #[.int .i64 a0_0, .int .i64 a0_1, .bool a0_2] 25 (0, 0))) := ⟨by rw [← hq_]; exact (bP BK796)⟩; replace BK797 : Aside0 (w121.heap[gb797]? = some (.cells #[.int .i64 a1_0, .int .i64 a1_1, .bool a1_2] 25 (0, 0))) := ⟨by rw [← hq_]; exact (bP BK797)⟩; replace BK798 : Aside0 (w121.heap[gb798]? = some (.cells #[.int .i64 a2_0, .int .i64 a2_1, .bool a2_2] 25 (0, 0))) := ⟨by rw [← hq_]; exact (bP BK798)⟩; replace BK799 : Aside0 (w121.heap[gb799]? = some (.cells #[.int .i64 0, .int .i64 0] 31 (0, 0))) := ⟨by rw [← hq_]; exact (bP BK799)⟩; replace BK800 : Aside0 (w121.heap[gb800]? = some (.cells #[.int .i64 1, .int .i64 0] 31 (0, 0))) := ⟨by rw [← hq_]; exact (bP BK800)⟩; replace HB : Aside0 (Below w.heap.size w w121) := ⟨by rw [← hq_]; exact (bZ HB)⟩; clear hq_))
     replace BK796 := Aside0.mk (blk_drew BK796.out)
     replace BK797 := Aside0.mk (blk_drew BK797.out)
     replace BK798 := Aside0.mk (blk_drew BK798.out)
     replace BK799 := Aside0.mk (blk_drew BK799.out)
     replace BK800 := Aside0.mk (blk_drew BK800.out)
     replace HB := Aside0.mk (below_drew1 HB.out)
     refine start_ (n := 11) (S := fun w' => SP3 w' gb796 (.int .i64 a0_0) (.int .i64 a0_1) (.bool a0_2) (SQ3 w' gb798 (.int .i64 a2_0) (.int .i64 a2_1) (.bool a2_2))) (ds := []) #[false, false, false, false, false, false, false, false, false, false, false] (by kernel_rfl) rfl rfl (bS3 BK796 (bT3 BK798)) (fun hHeld => ?_); refine with_tabW spec_PairLine.tab8 spec_PairLine.bits8 (fun HT_ HW_ => ?_)
     generalize w121.drew = w122 at BK796 BK797 BK798 BK799 BK800 HB hHeld ⊢
     refine pI 0 (some 53) HT_.out ?_
     refine pI 3 (some 56) HT_.out ?_
     refine pI 4 (some 57) HT_.out ?_
     refine pI 7 (some 60) HT_.out ?_
     refine tI6 1 (some 54) HT_.out HW_.out hHeld ?_
     refine tI6 8 (some 61) HT_.out HW_.out hHeld ?_
     refine oI 2 (some 55) HT_.out (fun K hK => ?_)
     refine gO Try.func75 #[.int .i64 0, .int .i64 a0_1] ?_
     with_reducible refine (spec_FpSub.calls 0 a0_1 t808 _ A108.out).mono ?_
     rintro e w' ⟨rfl, ⟨nd, rfl⟩⟩
     refine ⟨_, rfl, ?_⟩
     refine hK.out _ _ (bS3 BK796 (bT3 BK798)) (fun hHeld => ?_)
     clear hK K
     refine nO (some 55) ?_
     refine oI 5 (some 58) HT_.out (fun K hK => ?_)
     refine gO Try.func76 #[.int .i64 t804, .int .i64 t807] ?_
     with_reducible refine (spec_FpMul.calls t804 t807 t809 _ A109.out).mono ?_
     rintro e w' ⟨rfl, ⟨nd, rfl⟩⟩
     refine ⟨_, rfl, ?_⟩
     refine hK.out _ _ (bS3 BK796 (bT3 BK798)) (fun hHeld => ?_)
     clear hK K
     refine nO (some 58) ?_
     refine oI 6 (some 59) HT_.out (fun K hK => ?_)
     refine gO Try.func75 #[.int .i64 t808, .int .i64 t809] ?_
     with_reducible refine (spec_FpSub.calls t808 t809 t810 _ A110.out).mono ?_
     rintro e w' ⟨rfl, ⟨nd, rfl⟩⟩
     refine ⟨_, rfl, ?_⟩
     refine hK.out _ _ (bS3 BK796 (bT3 BK798)) (fun hHeld => ?_)
     clear hK K
     refine nO (some 59) ?_
     refine pI 9 (some 62) HT_.out ?_
     refine oI 10 (none) HT_.out (fun K hK => ?_)
     have hs123 : w122.cell? ⟨gb799, 0, none⟩ = some (.int .i64 0) := bc BK799 0
     have hfs123 := blk_frozen BK799.out 0
     have hns123_0 := NB796_799.out
     have hns123_1 := NB797_799.out
     have hns123_2 := NB798_799.out
     have hns123_4 := NB800_799.out
     have hms123_0 := NB799_796.out
     have hms123_1 := NB799_797.out
     have hms123_2 := NB799_798.out
     have hms123_4 := NB799_800.out
     have hs124 : w122.cell? ⟨gb799, 1, none⟩ = some (.int .i64 0) := bc BK799 1
     have hfs124 := blk_frozen BK799.out 1
     have hns124_0 := NB796_799.out
     have hns124_1 := NB797_799.out
     have hns124_2 := NB798_799.out
     have hns124_4 := NB800_799.out
     have hms124_0 := NB799_796.out
     have hms124_1 := NB799_797.out
     have hms124_2 := NB799_798.out
     have hms124_4 := NB799_800.out
     refine skip_ (w1 := ?_) (by rfl) rfl ?_ ?_
     rotate_left
     ·go_simp
      rfl
     refine hK.out _ _ ⟨((cell_far (p := ⟨gb799, _, none⟩) NB796_799.out _).trans (((cell_far (p := ⟨gb799, _, none⟩) NB796_799.out _).trans (hHeld.1)))), ((cell_far (p := ⟨gb799, _, none⟩) NB796_799.out _).trans (((cell_far (p := ⟨gb799, _, none⟩) NB796_799.out _).trans (hHeld.2.1)))), ((cell_far (p := ⟨gb799, _, none⟩) NB796_799.out _).trans (((cell_far (p := ⟨gb799, _, none⟩) NB796_799.out _).trans (hHeld.2.2.1)))), ((cell_far (p := ⟨gb799, _, none⟩) NB798_799.out _).trans (((cell_far (p := ⟨gb799, _, none⟩) NB798_799.out _).trans (hHeld.2.2.2.1)))), ((cell_far (p := ⟨gb799, _, none⟩) NB798_799.out _).trans (((cell_far (p := ⟨gb799, _, none⟩) NB798_799.out _).trans (hHeld.2.2.2.2.1)))), ((cell_far (p := ⟨gb799, _, none⟩) NB798_799.out _).trans (((cell_far (p := ⟨gb799, _, none⟩) NB798_799.out _).trans (hHeld.2.2.2.2.2))))⟩ (fun hHeld => ?_)
     clear hK K
     refine done_ (done_of HT_.out (by kernel_rfl)) ?_
     try go_wp2
     refine rC gb799 31 #[.int .i64 t810, .int .i64 a2_1] (bU BK799) Try.underlying31 ?_
     exact ⟨rR, bZ HB⟩
    ·replace c105 := Bool.eq_false_iff.mpr c105
     subst c105
     rw [if_neg (show ¬ (false = true) by decide)] at H
     simp only [Option.some.injEq, Prod.mk.injEq] at H
     obtain ⟨rfl, rfl⟩ := H
     obtain ⟨hnb125, hnc125⟩ := nB NB796_797
     obtain ⟨hnb126, hnc126⟩ := nB NB796_798
     obtain ⟨hnb127, hnc127⟩ := nB NB796_799
     obtain ⟨hnb128, hnc128⟩ := nB NB796_800
     obtain ⟨hcz129_0, hcz129_1, hcz129_2, hfz129_0, hfz129_1, hfz129_2⟩ := bK3 (w := wc) BK796
     obtain ⟨hnb130, hnc130⟩ := nB NB797_798
     obtain ⟨hnb131, hnc131⟩ := nB NB797_799
     obtain ⟨hnb132, hnc132⟩ := nB NB797_800
     obtain ⟨hcz133_0, hcz133_1, hcz133_2, hfz133_0, hfz133_1, hfz133_2⟩ := bK3 (w := wc) BK797
     go_wp2_with (first | ((with_reducible refine gate_callee (f := 74) rfl ?_); refine gL (some 41) Try.func74 #[.agg #[.int .i64 a0_0, .int .i64 a0_1, .bool a0_2], .agg #[.int .i64 a1_0, .int .i64 a1_1, .bool a1_2]] ?_; (with_reducible refine (spec_l07Slope.calls kj3 a0_0 a0_1 a0_2 a1_0 a1_1 a1_2 t804 false _ A104.out).mono ?_); rintro e w134 ⟨rfl, hb⟩; refine ⟨_, rfl, ?_⟩; replace BK796 := bB BK796 hb; replace BK797 := bB BK797 hb; replace BK798 := bB BK798 hb; replace BK799 := bB BK799 hb; replace BK800 := bB BK800 hb; replace HB := bS HB hb; (try clear hb); obtain ⟨hnb135, hnc135⟩ := nB NB800_798; obtain ⟨hnb136, hnc136⟩ := nB NB800_799; obtain ⟨hcz137_0, hcz137_1, hfz137_0, hfz137_1⟩ := bK2 (w := w134) BK800; obtain ⟨hnb138, hnc138⟩ := nB NB799_798; obtain ⟨hcz139_0, hcz139_1, hfz139_0, hfz139_1⟩ := bK2 (w := w134) BK799))
     refine rC gb799 31 #[.int .i64 1, .int .i64 0] (bU BK799) Try.underlying31 ?_
     exact ⟨rR, bZ HB⟩
/-! ### spec_PointAdd: function 53 -/
def spec_PointAdd.j0 : Nat → Bool → Int → Int → Bool → Int → Int → Bool → Option (Int × Int × Bool)
 | 0, _, _, _, _, _, _, _ => none
 | k + 1, x12, x306000, x306001, x306002, x307000, x307001, x307002 => if x12 = true then ((spec_l07Zero.f).bind fun bt310 => (some (bt310.1, bt310.2.1, bt310.2.2))) else ((spec_l07Add.f k x306000 x306001 x306002 x307000 x307001 x307002).bind fun bt313 => (some (bt313.1, bt313.2.1, bt313.2.2)))
def spec_PointAdd.f (k : Nat) (a0_0 : Int) (a0_1 : Int) (a0_2 : Bool) (a1_0 : Int) (a1_1 : Int) (a1_2 : Bool) : Option (Int × Int × Bool) := (spec_PointOk.f a0_0 a0_1 a0_2).bind fun t308 => (if t308 = true then ((spec_PointOk.f a1_0 a1_1 a1_2).bind fun t309 => (spec_PointAdd.j0 k (!t309) a0_0 a0_1 a0_2 a1_0 a1_1 a1_2)) else (spec_PointAdd.j0 k true a0_0 a0_1 a0_2 a1_0 a1_1 a1_2))
theorem spec_PointAdd.mono_l : ∀ k, (∀ y0 y1 y2 y3 y4 y5 y6, LeO (spec_PointAdd.j0 k y0 y1 y2 y3 y4 y5 y6) (spec_PointAdd.j0 (k + 1) y0 y1 y2 y3 y4 y5 y6))
 | 0 => fun _ _ _ _ _ _ _ r h => by simp [spec_PointAdd.j0] at h
 | k + 1 => by
  have ih0 := spec_PointAdd.mono_l k
  ·intro y0 y1 y2 y3 y4 y5 y6
   unfold spec_PointAdd.j0
   repeat' first
   | (with_reducible exact ih0 _ _ _ _ _ _ _)
   | (with_reducible exact spec_l07Add.mono _ _ _ _ _ _ _)
   | (with_reducible exact LeO.refl _)
   | (with_reducible exact LeO.none _)
   | (with_reducible refine LeO.ite ?_ ?_)
   | (with_reducible refine LeO.bind ?_ (fun _ => ?_))
   | exact ih0 _ _ _ _ _ _ _
   | exact spec_l07Add.mono _ _ _ _ _ _ _
   | exact LeO.none _
   | refine LeO.ite ?_ ?_
   | refine LeO.bind ?_ (fun _ => ?_)
theorem spec_PointAdd.mono : ∀ a0 a1 a2 a3 a4 a5 k, LeO (spec_PointAdd.f k a0 a1 a2 a3 a4 a5) (spec_PointAdd.f (k + 1) a0 a1 a2 a3 a4 a5) := by
 intro a0 a1 a2 a3 a4 a5 k
 have ih0 := spec_PointAdd.mono_l k
 unfold spec_PointAdd.f
 repeat' first
   | (with_reducible exact ih0 _ _ _ _ _ _ _)
   | (with_reducible exact spec_l07Add.mono _ _ _ _ _ _ _)
   | (with_reducible exact LeO.refl _)
   | (with_reducible exact LeO.none _)
   | (with_reducible refine LeO.ite ?_ ?_)
   | (with_reducible refine LeO.bind ?_ (fun _ => ?_))
   | exact ih0 _ _ _ _ _ _ _
   | exact spec_l07Add.mono _ _ _ _ _ _ _
   | exact LeO.none _
   | refine LeO.ite ?_ ?_
   | refine LeO.bind ?_ (fun _ => ?_)
set_option maxHeartbeats 8000000 in
set_option maxRecDepth 100000 in
theorem spec_PointAdd.calls (k : Nat) (a0_0 : Int) (a0_1 : Int) (a0_2 : Bool) (a1_0 : Int) (a1_1 : Int) (a1_2 : Bool) (r1 : Int) (r2 : Int) (r3 : Bool) (w : World) (h : spec_PointAdd.f k a0_0 a0_1 a0_2 a1_0 a1_1 a1_2 = some (r1, r2, r3)) :
  Calls Try.prog 53 #[.agg #[.int .i64 a0_0, .int .i64 a0_1, .bool a0_2], .agg #[.int .i64 a1_0, .int .i64 a1_1, .bool a1_2]] w fun e w' => e = .returned (.agg #[.int .i64 r1, .int .i64 r2, .bool r3]) ∧ Below w.heap.size w w' := by
 have hu25 := Try.underlying25
 have HB := Aside0.mk (Below.refl w.heap.size w)
 have H : ((spec_PointOk.f a0_0 a0_1 a0_2).bind fun t308 => (if t308 = true then ((spec_PointOk.f a1_0 a1_1 a1_2).bind fun t309 => (spec_PointAdd.j0 k (!t309) a0_0 a0_1 a0_2 a1_0 a1_1 a1_2)) else (spec_PointAdd.j0 k true a0_0 a0_1 a0_2 a1_0 a1_1 a1_2))) = some (r1, r2, r3) := h
 clear h
 have HC3 := Aside0.mk H
 clear H
 go_enter Try.func53, Try.ntmps53
 go_upto_region 1 with (first | ((with_reducible refine gate_dst (N := 2) rfl ?_); refine bE 2 #[.int .i64 a0_0, .int .i64 a0_1, .bool a0_2] 25 ?_; intro gb305 hg w4 hbox hb; have BK305 := Aside0.mk (hbox); have GW305 := bG HB hg; have GE305 := bG HB hg; replace HB := bS HB hb; clear hb hbox hg) | ((with_reducible refine gate_dst (N := 3) rfl ?_); refine bE 3 #[.int .i64 a1_0, .int .i64 a1_1, .bool a1_2] 25 ?_; intro gb306 hg w5 hbox hb; have BK306 := Aside0.mk (hbox); have GW306 := bG HB hg; have GE306 := bG HB hg; replace HB := bS HB hb; have NB305_306 := bL BK305 hg; have NB306_305 := bR BK305 hg; replace BK305 := bB BK305 hb; clear hb hbox hg) | ((with_reducible refine gate_dst (N := 4) rfl ?_); refine bE 4 #[.int .i64 0, .int .i64 0, .bool false] 25 ?_; intro gb307 hg w6 hbox hb; have BK307 := Aside0.mk (hbox); have GW307 := bG HB hg; have GE307 := bG HB hg; replace HB := bS HB hb; have NB305_307 := bL BK305 hg; have NB307_305 := bR BK305 hg; replace BK305 := bB BK305 hb; have NB306_307 := bL BK306 hg; have NB307_306 := bR BK306 hg; replace BK306 := bB BK306 hb; clear hb hbox hg))
 (try simp only [Act.put, List.setIfInBounds_toArray, List.set_cons_zero, List.set_cons_succ])
 go_cut [12] (fun v12 wc => ∃ (kq : Nat) (x12_2 : Bool), v12 = .bool x12_2 ∧ Aside0 (spec_PointAdd.j0 kq x12_2 a0_0 a0_1 a0_2 a1_0 a1_1 a1_2 = some (r1, r2, r3)) ∧ Aside0 (kq ≤ k) ∧ Aside0 (wc.heap[gb305]? = some (.cells #[.int .i64 a0_0, .int .i64 a0_1, .bool a0_2] 25 (0, 0))) ∧ Aside0 (wc.heap[gb306]? = some (.cells #[.int .i64 a1_0, .int .i64 a1_1, .bool a1_2] 25 (0, 0))) ∧ Aside0 (wc.heap[gb307]? = some (.cells #[.int .i64 0, .int .i64 0, .bool false] 25 (0, 0))) ∧ Aside0 (Below w.heap.size w wc))
 case first =>
  have H := HC3.out
  clear HC3
  replace H := Option.bind_eq_some_iff.mp H
  obtain ⟨t308, A70, H⟩ := H
  have A7 := Aside0.mk A70
  clear A70
  by_cases c8 : t308 = true
  ·subst c8
   rw [if_pos rfl] at H
   replace H := Option.bind_eq_some_iff.mp H
   obtain ⟨t309, A90, H⟩ := H
   have A9 := Aside0.mk A90
   clear A90
   have H' := Aside0.mk H
   clear H
   obtain ⟨hnb10, hnc10⟩ := nB NB305_306
   obtain ⟨hnb11, hnc11⟩ := nB NB305_307
   obtain ⟨hcz12_0, hcz12_1, hcz12_2, hfz12_0, hfz12_1, hfz12_2⟩ := bK3 (w := w6) BK305
   go_wp2_with (first | ((with_reducible refine gate_callee (f := 55) rfl ?_); refine gL (some 6) Try.func55 #[.agg #[.int .i64 a0_0, .int .i64 a0_1, .bool a0_2]] ?_; (with_reducible refine (spec_PointOk.calls a0_0 a0_1 a0_2 true _ A7.out).mono ?_); rintro e w13 ⟨rfl, hb⟩; refine ⟨_, rfl, ?_⟩; replace BK305 := bB BK305 hb; replace BK306 := bB BK306 hb; replace BK307 := bB BK307 hb; replace HB := bS HB hb; (try clear hb); obtain ⟨hnb14, hnc14⟩ := nB NB306_307; obtain ⟨hcz15_0, hcz15_1, hcz15_2, hfz15_0, hfz15_1, hfz15_2⟩ := bK3 (w := w13) BK306) | (go_at_call 55; (with_reducible refine (spec_PointOk.calls a1_0 a1_1 a1_2 t309 _ A9.out).mono ?_); rintro e w16 ⟨rfl, hb⟩; replace BK305 := bB BK305 hb; replace BK306 := bB BK306 hb; replace BK307 := bB BK307 hb; replace HB := bS HB hb; (try clear hb)))
   go_meet
   case rel => exact ⟨_, (!t309), rS, H', ⟨by first | omega | exact Nat.le_refl _⟩, ⟨bP BK305⟩, ⟨bP BK306⟩, ⟨bP BK307⟩, ⟨bZ HB⟩⟩
  ·replace c8 := Bool.eq_false_iff.mpr c8
   subst c8
   rw [if_neg (show ¬ (false = true) by decide)] at H
   have H' := Aside0.mk H
   clear H
   obtain ⟨hnb17, hnc17⟩ := nB NB305_306
   obtain ⟨hnb18, hnc18⟩ := nB NB305_307
   obtain ⟨hcz19_0, hcz19_1, hcz19_2, hfz19_0, hfz19_1, hfz19_2⟩ := bK3 (w := w6) BK305
   go_wp2_with (first | ((with_reducible refine gate_callee (f := 55) rfl ?_); refine gL (some 6) Try.func55 #[.agg #[.int .i64 a0_0, .int .i64 a0_1, .bool a0_2]] ?_; (with_reducible refine (spec_PointOk.calls a0_0 a0_1 a0_2 false _ A7.out).mono ?_); rintro e w20 ⟨rfl, hb⟩; refine ⟨_, rfl, ?_⟩; replace BK305 := bB BK305 hb; replace BK306 := bB BK306 hb; replace BK307 := bB BK307 hb; replace HB := bS HB hb; (try clear hb)))
   go_meet
   case rel => exact ⟨_, (true), rS, H', ⟨by first | omega | exact Nat.le_refl _⟩, ⟨bP BK305⟩, ⟨bP BK306⟩, ⟨bP BK307⟩, ⟨bZ HB⟩⟩
 case rest =>
  clear HC3
  try clear c1
  try clear p2
  try clear c5
  try clear c8
  try clear c10
  try clear c11
  try clear c14
  try clear c17
  try clear c18
  try clear hcz12_0
  try clear hcz12_1
  try clear hcz12_2
  try clear hcz15_0
  try clear hcz15_1
  try clear hcz15_2
  try clear hcz19_0
  try clear hcz19_1
  try clear hcz19_2
  try clear hfz12_0
  try clear hfz12_1
  try clear hfz12_2
  try clear hfz15_0
  try clear hfz15_1
  try clear hfz15_2
  try clear hfz19_0
  try clear hfz19_1
  try clear hfz19_2
  obtain ⟨kq, x12_2, rfl, HA, HJ2, BK305, BK306, BK307, HB⟩ := hcut
  cases kq with
  | zero => exact absurd HA.out (by simp [spec_PointAdd.j0])
  | succ kj2 =>
   have H := HA.out
   clear HA
   simp only [spec_PointAdd.j0] at H
   by_cases c21 : x12_2 = true
   ·subst c21
    rw [if_pos rfl] at H
    replace H := Option.bind_eq_some_iff.mp H
    obtain ⟨⟨t310, t311, t312⟩, A220, H⟩ := H
    have A22 := Aside0.mk A220
    clear A220
    simp only [Option.some.injEq, Prod.mk.injEq] at H
    obtain ⟨rfl, rfl, rfl⟩ := H
    go_wp2_with (first | ((with_reducible refine gate_callee (f := 78) rfl ?_); refine gL (some 13) Try.func78 #[] ?_; (with_reducible refine (spec_l07Zero.calls  t310 t311 t312 _ A22.out).mono ?_); rintro e w23 ⟨rfl, hb⟩; refine ⟨_, rfl, ?_⟩; replace BK305 := bB BK305 hb; replace BK306 := bB BK306 hb; replace BK307 := bB BK307 hb; replace HB := bS HB hb; (try clear hb); obtain ⟨hnb24, hnc24⟩ := nB NB307_305; obtain ⟨hnb25, hnc25⟩ := nB NB307_306; obtain ⟨hcz26_0, hcz26_1, hcz26_2, hfz26_0, hfz26_1, hfz26_2⟩ := bK3 (w := w23) BK307))
    refine rC gb307 25 #[.int .i64 t310, .int .i64 t311, .bool t312] (bU BK307) Try.underlying25 ?_
    exact ⟨rR, bZ HB⟩
   ·replace c21 := Bool.eq_false_iff.mpr c21
    subst c21
    rw [if_neg (show ¬ (false = true) by decide)] at H
    replace H := Option.bind_eq_some_iff.mp H
    obtain ⟨⟨t313, t314, t315⟩, A270, H⟩ := H
    have A27 := Aside0.mk A270
    clear A270
    simp only [Option.some.injEq, Prod.mk.injEq] at H
    obtain ⟨rfl, rfl, rfl⟩ := H
    obtain ⟨hnb28, hnc28⟩ := nB NB305_306
    obtain ⟨hnb29, hnc29⟩ := nB NB305_307
    obtain ⟨hcz30_0, hcz30_1, hcz30_2, hfz30_0, hfz30_1, hfz30_2⟩ := bK3 (w := wc) BK305
    obtain ⟨hnb31, hnc31⟩ := nB NB306_307
    obtain ⟨hcz32_0, hcz32_1, hcz32_2, hfz32_0, hfz32_1, hfz32_2⟩ := bK3 (w := wc) BK306
    go_wp2_with (first | ((with_reducible refine gate_callee (f := 80) rfl ?_); refine gL (some 16) Try.func80 #[.agg #[.int .i64 a0_0, .int .i64 a0_1, .bool a0_2], .agg #[.int .i64 a1_0, .int .i64 a1_1, .bool a1_2]] ?_; (with_reducible refine (spec_l07Add.calls kj2 a0_0 a0_1 a0_2 a1_0 a1_1 a1_2 t313 t314 t315 _ A27.out).mono ?_); rintro e w33 ⟨rfl, hb⟩; refine ⟨_, rfl, ?_⟩; replace BK305 := bB BK305 hb; replace BK306 := bB BK306 hb; replace BK307 := bB BK307 hb; replace HB := bS HB hb; (try clear hb); obtain ⟨hcz34_0, hcz34_1, hcz34_2, hfz34_0, hfz34_1, hfz34_2⟩ := bK3 (w := w33) BK307))
    refine rC gb307 25 #[.int .i64 t313, .int .i64 t314, .bool t315] (bU BK307) Try.underlying25 ?_
    exact ⟨rR, bZ HB⟩
/-! ### spec_TwoMul: function 71 -/
def spec_TwoMul.f (a0_0 : Int) (a0_1 : Int) (a1_0 : Int) (a1_1 : Int) : Option (Int × Int) := (spec_FpMul.f a0_0 a1_0).bind fun t814 => ((spec_FpMul.f a0_1 a1_1).bind fun t815 => ((spec_FpSub.f t814 t815).bind fun t816 => ((spec_FpMul.f a0_0 a1_1).bind fun t817 => ((spec_FpMul.f a0_1 a1_0).bind fun t818 => ((spec_FpAdd.f t817 t818).bind fun t819 => (some (t816, t819)))))))
def spec_TwoMul.T1 : Bool × List (List Nat × List Nat) := (true, [([], []), ([0], [0]), ([], []), ([2], [2]), ([1, 3], [1, 3]), ([], []), ([5], [5]), ([], []), ([7], [7]), ([6, 8, 4], [6, 8]), ([4, 9, 9], [4, 9]), ([], []), ([11], [11]), ([], []), ([13], [13]), ([12, 14, 10], [12, 14]), ([], []), ([16], [16]), ([], []), ([18], [18]), ([17, 19, 15], [17, 19]), ([15, 20, 20], [15, 20]), ([10, 21], [10, 21]), ([22, 21, 0, 1, 2, 3, 4, 5, 6, 7, 8, 9, 10, 11, 12, 13, 14, 15, 16, 17, 18, 19, 20, 21, 22], [22])])
def spec_TwoMul.B1 : List Nat := [0, 1, 0, 4, 15, 0, 32, 0, 128, 511, 1023, 0, 2048, 0, 8192, 32767, 0, 65536, 0, 262144, 1048575, 2097151, 4194303, 8388607]
theorem spec_TwoMul.tab1 : rtab .any (opsOf Try.f71 1) = spec_TwoMul.T1 := by kernel_rfl
theorem spec_TwoMul.bits1 : waitsOk spec_TwoMul.T1.2 spec_TwoMul.B1 = true := by kernel_rfl
set_option maxHeartbeats 8000000 in
set_option maxRecDepth 100000 in
theorem spec_TwoMul.calls (a0_0 : Int) (a0_1 : Int) (a1_0 : Int) (a1_1 : Int) (r1 : Int) (r2 : Int) (w : World) (h : spec_TwoMul.f a0_0 a0_1 a1_0 a1_1 = some (r1, r2)) :
  Calls Try.prog 71 #[.agg #[.int .i64 a0_0, .int .i64 a0_1], .agg #[.int .i64 a1_0, .int .i64 a1_1]] w fun e w' => e = .returned (.agg #[.int .i64 r1, .int .i64 r2]) ∧ Below w.heap.size w w' := by
 have hu31 := Try.underlying31
 have HB := Aside0.mk (Below.refl w.heap.size w)
 have H : ((spec_FpMul.f a0_0 a1_0).bind fun t814 => ((spec_FpMul.f a0_1 a1_1).bind fun t815 => ((spec_FpSub.f t814 t815).bind fun t816 => ((spec_FpMul.f a0_0 a1_1).bind fun t817 => ((spec_FpMul.f a0_1 a1_0).bind fun t818 => ((spec_FpAdd.f t817 t818).bind fun t819 => (some (t816, t819)))))))) = some (r1, r2) := h
 clear h
 replace H := Option.bind_eq_some_iff.mp H
 obtain ⟨t814, A30, H⟩ := H
 have A3 := Aside0.mk A30
 clear A30
 replace H := Option.bind_eq_some_iff.mp H
 obtain ⟨t815, A40, H⟩ := H
 have A4 := Aside0.mk A40
 clear A40
 replace H := Option.bind_eq_some_iff.mp H
 obtain ⟨t816, A50, H⟩ := H
 have A5 := Aside0.mk A50
 clear A50
 replace H := Option.bind_eq_some_iff.mp H
 obtain ⟨t817, A60, H⟩ := H
 have A6 := Aside0.mk A60
 clear A60
 replace H := Option.bind_eq_some_iff.mp H
 obtain ⟨t818, A70, H⟩ := H
 have A7 := Aside0.mk A70
 clear A70
 replace H := Option.bind_eq_some_iff.mp H
 obtain ⟨t819, A80, H⟩ := H
 have A8 := Aside0.mk A80
 clear A80
 simp only [Option.some.injEq, Prod.mk.injEq] at H
 obtain ⟨rfl, rfl⟩ := H
 go_enter Try.func71, Try.ntmps71
 try go_wp2_with (first | ((with_reducible refine gate_dst (N := 2) rfl ?_); refine bE 2 #[.int .i64 a0_0, .int .i64 a0_1] 31 ?_; intro gb811 hg w9 hbox hb; have BK811 := Aside0.mk (hbox); have GW811 := bG HB hg; have GE811 := bG HB hg; replace HB := bS HB hb; clear hb hbox hg) | ((with_reducible refine gate_dst (N := 3) rfl ?_); refine bE 3 #[.int .i64 a1_0, .int .i64 a1_1] 31 ?_; intro gb812 hg w10 hbox hb; have BK812 := Aside0.mk (hbox); have GW812 := bG HB hg; have GE812 := bG HB hg; replace HB := bS HB hb; have NB811_812 := bL BK811 hg; have NB812_811 := bR BK811 hg; replace BK811 := bB BK811 hb; clear hb hbox hg) | ((with_reducible refine gate_dst (N := 4) rfl ?_); refine bE 4 #[.int .i64 0, .int .i64 0] 31 ?_; intro gb813 hg w11 hbox hb; have BK813 := Aside0.mk (hbox); have GW813 := bG HB hg; have GE813 := bG HB hg; replace HB := bS HB hb; have NB811_813 := bL BK811 hg; have NB813_811 := bR BK811 hg; replace BK811 := bB BK811 hb; have NB812_813 := bL BK812 hg; have NB813_812 := bR BK812 hg; replace BK812 := bB BK812 hb; clear hb hbox hg))
 replace BK811 := Aside0.mk (blk_drew BK811.out)
 replace BK812 := Aside0.mk (blk_drew BK812.out)
 replace BK813 := Aside0.mk (blk_drew BK813.out)
 replace HB := Aside0.mk (below_drew1 HB.out)
 refine start_ (n := 24) (S := fun w' => SP2 w' gb811 (.int .i64 a0_0) (.int .i64 a0_1) (SQ2 w' gb812 (.int .i64 a1_0) (.int .i64 a1_1))) (ds := []) #[false, false, false, false, false, false, false, false, false, false, false, false, false, false, false, false, false, false, false, false, false, false, false, false] (by kernel_rfl) rfl rfl (bS2 BK811 (bT2 BK812)) (fun hHeld => ?_); refine with_tabW spec_TwoMul.tab1 spec_TwoMul.bits1 (fun HT_ HW_ => ?_)
 generalize w11.drew = w12 at BK811 BK812 BK813 HB hHeld ⊢
 refine pI 0 (some 5) HT_.out ?_
 refine pI 2 (some 7) HT_.out ?_
 refine pI 5 (some 10) HT_.out ?_
 refine pI 7 (some 12) HT_.out ?_
 refine pI 11 (some 16) HT_.out ?_
 refine pI 13 (some 18) HT_.out ?_
 refine pI 16 (some 21) HT_.out ?_
 refine pI 18 (some 23) HT_.out ?_
 refine tI4 1 (some 6) HT_.out HW_.out hHeld ?_
 refine tI4 3 (some 8) HT_.out HW_.out hHeld ?_
 refine tI4 6 (some 11) HT_.out HW_.out hHeld ?_
 refine tI4 8 (some 13) HT_.out HW_.out hHeld ?_
 refine tI4 12 (some 17) HT_.out HW_.out hHeld ?_
 refine tI4 14 (some 19) HT_.out HW_.out hHeld ?_
 refine tI4 17 (some 22) HT_.out HW_.out hHeld ?_
 refine tI4 19 (some 24) HT_.out HW_.out hHeld ?_
 refine oI 4 (some 9) HT_.out (fun K hK => ?_)
 refine gO Try.func76 #[.int .i64 a0_0, .int .i64 a1_0] ?_
 with_reducible refine (spec_FpMul.calls a0_0 a1_0 t814 _ A3.out).mono ?_
 rintro e w' ⟨rfl, ⟨nd, rfl⟩⟩
 refine ⟨_, rfl, ?_⟩
 refine hK.out _ _ (bS2 BK811 (bT2 BK812)) (fun hHeld => ?_)
 clear hK K
 refine nO (some 9) ?_
 refine oI 9 (some 14) HT_.out (fun K hK => ?_)
 refine gO Try.func76 #[.int .i64 a0_1, .int .i64 a1_1] ?_
 with_reducible refine (spec_FpMul.calls a0_1 a1_1 t815 _ A4.out).mono ?_
 rintro e w' ⟨rfl, ⟨nd, rfl⟩⟩
 refine ⟨_, rfl, ?_⟩
 refine hK.out _ _ (bS2 BK811 (bT2 BK812)) (fun hHeld => ?_)
 clear hK K
 refine nO (some 14) ?_
 refine oI 10 (some 15) HT_.out (fun K hK => ?_)
 refine gO Try.func75 #[.int .i64 t814, .int .i64 t815] ?_
 with_reducible refine (spec_FpSub.calls t814 t815 t816 _ A5.out).mono ?_
 rintro e w' ⟨rfl, ⟨nd, rfl⟩⟩
 refine ⟨_, rfl, ?_⟩
 refine hK.out _ _ (bS2 BK811 (bT2 BK812)) (fun hHeld => ?_)
 clear hK K
 refine nO (some 15) ?_
 refine oI 15 (some 20) HT_.out (fun K hK => ?_)
 refine gO Try.func76 #[.int .i64 a0_0, .int .i64 a1_1] ?_
 with_reducible refine (spec_FpMul.calls a0_0 a1_1 t817 _ A6.out).mono ?_
 rintro e w' ⟨rfl, ⟨nd, rfl⟩⟩
 refine ⟨_, rfl, ?_⟩
 refine hK.out _ _ (bS2 BK811 (bT2 BK812)) (fun hHeld => ?_)
 clear hK K
 refine nO (some 20) ?_
 refine oI 20 (some 25) HT_.out (fun K hK => ?_)
 refine gO Try.func76 #[.int .i64 a0_1, .int .i64 a1_0] ?_
 with_reducible refine (spec_FpMul.calls a0_1 a1_0 t818 _ A7.out).mono ?_
 rintro e w' ⟨rfl, ⟨nd, rfl⟩⟩
 refine ⟨_, rfl, ?_⟩
 refine hK.out _ _ (bS2 BK811 (bT2 BK812)) (fun hHeld => ?_)
 clear hK K
 refine nO (some 25) ?_
 refine oI 21 (some 26) HT_.out (fun K hK => ?_)
 refine gO Try.func103 #[.int .i64 t817, .int .i64 t818] ?_
 with_reducible refine (spec_FpAdd.calls t817 t818 t819 _ A8.out).mono ?_
 rintro e w' ⟨rfl, ⟨nd, rfl⟩⟩
 refine ⟨_, rfl, ?_⟩
 refine hK.out _ _ (bS2 BK811 (bT2 BK812)) (fun hHeld => ?_)
 clear hK K
 refine nO (some 26) ?_
 refine pI 22 (some 27) HT_.out ?_
 refine oI 23 (none) HT_.out (fun K hK => ?_)
 have hs13 : w12.cell? ⟨gb813, 0, none⟩ = some (.int .i64 0) := bc BK813 0
 have hfs13 := blk_frozen BK813.out 0
 have hns13_0 := NB811_813.out
 have hns13_1 := NB812_813.out
 have hms13_0 := NB813_811.out
 have hms13_1 := NB813_812.out
 have hs14 : w12.cell? ⟨gb813, 1, none⟩ = some (.int .i64 0) := bc BK813 1
 have hfs14 := blk_frozen BK813.out 1
 have hns14_0 := NB811_813.out
 have hns14_1 := NB812_813.out
 have hms14_0 := NB813_811.out
 have hms14_1 := NB813_812.out
 refine skip_ (w1 := ?_) (by rfl) rfl ?_ ?_
 rotate_left
 ·go_simp
  rfl
 refine hK.out _ _ ⟨((cell_far (p := ⟨gb813, _, none⟩) NB811_813.out _).trans (((cell_far (p := ⟨gb813, _, none⟩) NB811_813.out _).trans (hHeld.1)))), ((cell_far (p := ⟨gb813, _, none⟩) NB811_813.out _).trans (((cell_far (p := ⟨gb813, _, none⟩) NB811_813.out _).trans (hHeld.2.1)))), ((cell_far (p := ⟨gb813, _, none⟩) NB812_813.out _).trans (((cell_far (p := ⟨gb813, _, none⟩) NB812_813.out _).trans (hHeld.2.2.1)))), ((cell_far (p := ⟨gb813, _, none⟩) NB812_813.out _).trans (((cell_far (p := ⟨gb813, _, none⟩) NB812_813.out _).trans (hHeld.2.2.2))))⟩ (fun hHeld => ?_)
 clear hK K
 refine done_ (done_of HT_.out (by kernel_rfl)) ?_
 try go_wp2
 refine rC gb813 31 #[.int .i64 t816, .int .i64 t819] (bU BK813) Try.underlying31 ?_
 exact ⟨rR, bZ HB⟩
end Go.Proofs.Ytmbjefdkjdemhaa.Pf
end
