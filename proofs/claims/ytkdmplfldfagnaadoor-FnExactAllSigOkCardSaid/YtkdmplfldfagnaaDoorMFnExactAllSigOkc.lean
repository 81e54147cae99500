/- What is proved here: part 3 of 5 of the proof of the given statement FnExactAllSigOk: the contracts of the Go functions that it reaches, the plain facts on lists and numbers, and (in the last part) the statement itself. No conditions beyond the given ones. -/
import Derived.Test.YtkdmplfldfagnaaDoorMFnExactAllSigOkwSlim
import Derived.Test.YtkdmplfldfagnaaDoorMFnExactAllSigOka
import Derived.Test.YtkdmplfldfagnaaDoorMFnExactAllSigOkb

section
namespace Go.Proofs.YtkdmplfldfagnaaDoor.Pf
open Go.RowKit Go.Proofs.YtkdmplfldfagnaaDoorW.PrintWords Go.Proofs.YtkdmplfldfagnaaDoorW.PrintLast Go.Proofs.YtkdmplfldfagnaaDoorW.PrintMore
attribute [local go_sem] max2_int min2_int max_two min_two max_three min_three max_four min_four   -- for this text's walks alone
set_option linter.unusedVariables false
set_option linter.unusedSimpArgs false
/-! ### impl_PairLine: function 133 -/
def impl_PairLine.j0 : Nat → Bool → Int → Int → Bool → Int → Int → Bool → Int → Int → Bool → Int → Int → Option (Int × Int)
 | 0, _, _, _, _, _, _, _, _, _, _, _, _ => none
 | k + 1, x36, x625000, x625001, x625002, x626000, x626001, x626002, x627000, x627001, x627002, x629000, x629001 => if x36 = true then (some (x629000, x629001)) else ((impl_slopeOf.f k x625000 x625001 x625002 x626000 x626001 x626002).bind fun bt632 => (if bt632.2 = true then ((impl_FpSub.f 0 x627000).bind fun t634 => ((impl_FpSub.f t634 x625000).bind fun t635 => ((impl_FpSub.f 0 x625001).bind fun t636 => ((impl_FpMul.f bt632.1 t635).bind fun t637 => ((impl_FpSub.f t636 t637).bind fun t638 => (some (t638, x627001))))))) else (some (x629000, x629001))))
def impl_PairLine.f (k : Nat) (a0_0 : Int) (a0_1 : Int) (a0_2 : Bool) (a1_0 : Int) (a1_1 : Int) (a1_2 : Bool) (a2_0 : Int) (a2_1 : Int) (a2_2 : Bool) : Option (Int × Int) := if a0_2 = true then (impl_PairLine.j0 k true a0_0 a0_1 a0_2 a1_0 a1_1 a1_2 a2_0 a2_1 a2_2 1 0) else (if a1_2 = true then (impl_PairLine.j0 k true a0_0 a0_1 a0_2 a1_0 a1_1 a1_2 a2_0 a2_1 a2_2 1 0) else (if a2_2 = true then (impl_PairLine.j0 k true a0_0 a0_1 a0_2 a1_0 a1_1 a1_2 a2_0 a2_1 a2_2 1 0) else ((impl_PointOk.f a0_0 a0_1 a0_2).bind fun t629 => (if t629 = true then ((impl_PointOk.f a1_0 a1_1 a1_2).bind fun t630 => (if t630 = true then ((impl_PointOk.f a2_0 a2_1 a2_2).bind fun t631 => (impl_PairLine.j0 k (!t631) a0_0 a0_1 a0_2 a1_0 a1_1 a1_2 a2_0 a2_1 a2_2 1 0)) else (impl_PairLine.j0 k true a0_0 a0_1 a0_2 a1_0 a1_1 a1_2 a2_0 a2_1 a2_2 1 0))) else (impl_PairLine.j0 k true a0_0 a0_1 a0_2 a1_0 a1_1 a1_2 a2_0 a2_1 a2_2 1 0)))))
theorem impl_PairLine.mono_l : ∀ k, (∀ y0 y1 y2 y3 y4 y5 y6 y7 y8 y9 y10 y11, LeO (impl_PairLine.j0 k y0 y1 y2 y3 y4 y5 y6 y7 y8 y9 y10 y11) (impl_PairLine.j0 (k + 1) y0 y1 y2 y3 y4 y5 y6 y7 y8 y9 y10 y11))
 | 0 => fun _ _ _ _ _ _ _ _ _ _ _ _ r h => by simp [impl_PairLine.j0] at h
 | k + 1 => by
  have ih0 := impl_PairLine.mono_l k
  ·intro y0 y1 y2 y3 y4 y5 y6 y7 y8 y9 y10 y11
   unfold impl_PairLine.j0
   repeat' first
   | (with_reducible exact ih0 _ _ _ _ _ _ _ _ _ _ _ _)
   | (with_reducible exact impl_slopeOf.mono _ _ _ _ _ _ _)
   | (with_reducible exact LeO.refl _)
   | (with_reducible exact LeO.none _)
   | (with_reducible refine LeO.ite ?_ ?_)
   | (with_reducible refine LeO.bind ?_ (fun _ => ?_))
   | exact ih0 _ _ _ _ _ _ _ _ _ _ _ _
   | exact impl_slopeOf.mono _ _ _ _ _ _ _
   | exact LeO.none _
   | refine LeO.ite ?_ ?_
   | refine LeO.bind ?_ (fun _ => ?_)
theorem impl_PairLine.mono : ∀ a0 a1 a2 a3 a4 a5 a6 a7 a8 k, LeO (impl_PairLine.f k a0 a1 a2 a3 a4 a5 a6 a7 a8) (impl_PairLine.f (k + 1) a0 a1 a2 a3 a4 a5 a6 a7 a8) := by
 intro a0 a1 a2 a3 a4 a5 a6 a7 a8 k
 have ih0 := impl_PairLine.mono_l k
 unfold impl_PairLine.f
 repeat' first
   | (with_reducible exact ih0 _ _ _ _ _ _ _ _ _ _ _ _)
   | (with_reducible exact impl_slopeOf.mono _ _ _ _ _ _ _)
   | (with_reducible exact LeO.refl _)
   | (with_reducible exact LeO.none _)
   | (with_reducible refine LeO.ite ?_ ?_)
   | (with_reducible refine LeO.bind ?_ (fun _ => ?_))
   | exact ih0 _ _ _ _ _ _ _ _ _ _ _ _
   | exact impl_slopeOf.mono _ _ _ _ _ _ _
   | exact LeO.none _
   | refine LeO.ite ?_ ?_
   | refine LeO.bind ?_ (fun _ => ?_)
def impl_PairLine.T8 : Bool × List (List Nat × List Nat) := (true, [([], []), ([0], [0]), ([1], [1]), ([], []), ([], []), ([3, 4, 2], [3, 4]), ([2, 5, 5], [2, 5]), ([], []), ([7], [7]), ([6, 8], [6, 8]), ([9, 6, 0, 1, 2, 3, 4, 5, 6, 7, 8, 9], [9])])
def impl_PairLine.B8 : List Nat := [0, 1, 3, 0, 0, 31, 63, 0, 128, 511, 1023]
theorem impl_PairLine.tab8 : rtab .any (opsOf Tryd.f133 8) = impl_PairLine.T8 := by kernel_rfl
theorem impl_PairLine.bits8 : waitsOk impl_PairLine.T8.2 impl_PairLine.B8 = true := by kernel_rfl
set_option maxHeartbeats 8000000 in
set_option maxRecDepth 100000 in
theorem impl_PairLine.calls (k : Nat) (a0_0 : Int) (a0_1 : Int) (a0_2 : Bool) (a1_0 : Int) (a1_1 : Int) (a1_2 : Bool) (a2_0 : Int) (a2_1 : Int) (a2_2 : Bool) (r1 : Int) (r2 : Int) (w : World) (h : impl_PairLine.f k a0_0 a0_1 a0_2 a1_0 a1_1 a1_2 a2_0 a2_1 a2_2 = some (r1, r2)) :
  Calls Tryd.prog 133 #[.agg #[.int .i64 a0_0, .int .i64 a0_1, .bool a0_2], .agg #[.int .i64 a1_0, .int .i64 a1_1, .bool a1_2], .agg #[.int .i64 a2_0, .int .i64 a2_1, .bool a2_2]] w fun e w' => e = .returned (.agg #[.int .i64 r1, .int .i64 r2]) ∧ Below w.heap.size w w' := by
 have hu23 := Tryd.underlying23
 have hu80 := Tryd.underlying80
 have HB := Aside0.mk (Below.refl w.heap.size w)
 have H : (if a0_2 = true then (impl_PairLine.j0 k true a0_0 a0_1 a0_2 a1_0 a1_1 a1_2 a2_0 a2_1 a2_2 1 0) else (if a1_2 = true then (impl_PairLine.j0 k true a0_0 a0_1 a0_2 a1_0 a1_1 a1_2 a2_0 a2_1 a2_2 1 0) else (if a2_2 = true then (impl_PairLine.j0 k true a0_0 a0_1 a0_2 a1_0 a1_1 a1_2 a2_0 a2_1 a2_2 1 0) else ((impl_PointOk.f a0_0 a0_1 a0_2).bind fun t629 => (if t629 = true then ((impl_PointOk.f a1_0 a1_1 a1_2).bind fun t630 => (if t630 = true then ((impl_PointOk.f a2_0 a2_1 a2_2).bind fun t631 => (impl_PairLine.j0 k (!t631) a0_0 a0_1 a0_2 a1_0 a1_1 a1_2 a2_0 a2_1 a2_2 1 0)) else (impl_PairLine.j0 k true a0_0 a0_1 a0_2 a1_0 a1_1 a1_2 a2_0 a2_1 a2_2 1 0))) else (impl_PairLine.j0 k true a0_0 a0_1 a0_2 a1_0 a1_1 a1_2 a2_0 a2_1 a2_2 1 0)))))) = some (r1, r2) := h
 clear h
 have HC4 := Aside0.mk H
 clear H
 go_enter Tryd.func133, Tryd.ntmps133
 go_upto_region 2 with (first | ((with_reducible refine gate_dst (N := 3) rfl ?_); refine bE 3 #[.int .i64 a0_0, .int .i64 a0_1, .bool a0_2] 23 ?_; intro gb624 hg w5 hbox hb; have BK624 := Aside0.mk (hbox); have GW624 := bG HB hg; have GE624 := bG HB hg; replace HB := bS HB hb; clear hb hbox hg) | ((with_reducible refine gate_dst (N := 4) rfl ?_); refine bE 4 #[.int .i64 a1_0, .int .i64 a1_1, .bool a1_2] 23 ?_; intro gb625 hg w6 hbox hb; have BK625 := Aside0.mk (hbox); have GW625 := bG HB hg; have GE625 := bG HB hg; replace HB := bS HB hb; have NB624_625 := bL BK624 hg; have NB625_624 := bR BK624 hg; replace BK624 := bB BK624 hb; clear hb hbox hg) | ((with_reducible refine gate_dst (N := 5) rfl ?_); refine bE 5 #[.int .i64 a2_0, .int .i64 a2_1, .bool a2_2] 23 ?_; intro gb626 hg w7 hbox hb; have BK626 := Aside0.mk (hbox); have GW626 := bG HB hg; have GE626 := bG HB hg; replace HB := bS HB hb; have NB624_626 := bL BK624 hg; have NB626_624 := bR BK624 hg; replace BK624 := bB BK624 hb; have NB625_626 := bL BK625 hg; have NB626_625 := bR BK625 hg; replace BK625 := bB BK625 hb; clear hb hbox hg) | ((with_reducible refine gate_dst (N := 6) rfl ?_); refine bE 6 #[.int .i64 0, .int .i64 0] 80 ?_; intro gb627 hg w8 hbox hb; have BK627 := Aside0.mk (hbox); have GW627 := bG HB hg; have GE627 := bG HB hg; replace HB := bS HB hb; have NB624_627 := bL BK624 hg; have NB627_624 := bR BK624 hg; replace BK624 := bB BK624 hb; have NB625_627 := bL BK625 hg; have NB627_625 := bR BK625 hg; replace BK625 := bB BK625 hb; have NB626_627 := bL BK626 hg; have NB627_626 := bR BK626 hg; replace BK626 := bB BK626 hb; clear hb hbox hg) | ((with_reducible refine gate_dst (N := 7) rfl ?_); refine bE 7 #[.int .i64 0, .int .i64 0] 80 ?_; intro gb628 hg w9 hbox hb; have BK628 := Aside0.mk (hbox); have GW628 := bG HB hg; have GE628 := bG HB hg; replace HB := bS HB hb; have NB624_628 := bL BK624 hg; have NB628_624 := bR BK624 hg; replace BK624 := bB BK624 hb; have NB625_628 := bL BK625 hg; have NB628_625 := bR BK625 hg; replace BK625 := bB BK625 hb; have NB626_628 := bL BK626 hg; have NB628_626 := bR BK626 hg; replace BK626 := bB BK626 hb; have NB627_628 := bL BK627 hg; have NB628_627 := bR BK627 hg; replace BK627 := bB BK627 hb; clear hb hbox hg; have hnb10 := NB628_624.out; have hnc10 := NB624_628.out; have hnb11 := NB628_625.out; have hnc11 := NB625_628.out; have hnb12 := NB628_626.out; have hnc12 := NB626_628.out; have hnb13 := NB628_627.out; have hnc13 := NB627_628.out; obtain ⟨hcz14_0, hcz14_1, hfz14_0, hfz14_1⟩ := bK2 (w := w9) BK628))
 (try simp only [Act.put, List.setIfInBounds_toArray, List.set_cons_zero, List.set_cons_succ])
 go_cut [36] (fun v36 wc => ∃ (kq : Nat) (x36_3 : Bool), v36 = .bool x36_3 ∧ Aside0 (impl_PairLine.j0 kq x36_3 a0_0 a0_1 a0_2 a1_0 a1_1 a1_2 a2_0 a2_1 a2_2 1 0 = some (r1, r2)) ∧ Aside0 (kq ≤ k) ∧ Aside0 (wc.heap[gb624]? = some (.cells #[.int .i64 a0_0, .int .i64 a0_1, .bool a0_2] 23 (0, 0))) ∧ Aside0 (wc.heap[gb625]? = some (.cells #[.int .i64 a1_0, .int .i64 a1_1, .bool a1_2] 23 (0, 0))) ∧ Aside0 (wc.heap[gb626]? = some (.cells #[.int .i64 a2_0, .int .i64 a2_1, .bool a2_2] 23 (0, 0))) ∧ Aside0 (wc.heap[gb627]? = some (.cells #[.int .i64 0, .int .i64 0] 80 (0, 0))) ∧ Aside0 (wc.heap[gb628]? = some (.cells #[.int .i64 1, .int .i64 0] 80 (0, 0))) ∧ Aside0 (Below w.heap.size w wc))
 case first =>
  have H := HC4.out
  clear HC4
  by_cases c15 : a0_2 = true
  ·subst c15
   rw [if_pos rfl] at H
   have H' := Aside0.mk H
   clear H
   have hnb16 := NB624_625.out
   have hnc16 := NB625_624.out
   have hnb17 := NB624_626.out
   have hnc17 := NB626_624.out
   have hnb18 := NB624_627.out
   have hnc18 := NB627_624.out
   have hnb19 := NB624_628.out
   have hnc19 := NB628_624.out
   obtain ⟨hcz20_0, hcz20_1, hcz20_2, hfz20_0, hfz20_1, hfz20_2⟩ := bK3 (w := w9) BK624
   go_wp2
   go_meet
   case rel => exact ⟨_, (true), rS, H', ⟨by first | omega | exact Nat.le_refl _⟩, ⟨bP BK624⟩, ⟨bP BK625⟩, ⟨bP BK626⟩, ⟨bP BK627⟩, ⟨bU BK628⟩, ⟨bZ HB⟩⟩
  ·replace c15 := Bool.eq_false_iff.mpr c15
   subst c15
   rw [if_neg (show ¬ (false = true) by decide)] at H
   by_cases c21 : a1_2 = true
   ·subst c21
    rw [if_pos rfl] at H
    have H' := Aside0.mk H
    clear H
    have hnb22 := NB624_625.out
    have hnc22 := NB625_624.out
    have hnb23 := NB624_626.out
    have hnc23 := NB626_624.out
    have hnb24 := NB624_627.out
    have hnc24 := NB627_624.out
    have hnb25 := NB624_628.out
    have hnc25 := NB628_624.out
    obtain ⟨hcz26_0, hcz26_1, hcz26_2, hfz26_0, hfz26_1, hfz26_2⟩ := bK3 (w := w9) BK624
    have hnb27 := NB625_626.out
    have hnc27 := NB626_625.out
    have hnb28 := NB625_627.out
    have hnc28 := NB627_625.out
    have hnb29 := NB625_628.out
    have hnc29 := NB628_625.out
    obtain ⟨hcz30_0, hcz30_1, hcz30_2, hfz30_0, hfz30_1, hfz30_2⟩ := bK3 (w := w9) BK625
    go_wp2
    go_meet
    case rel => exact ⟨_, (true), rS, H', ⟨by first | omega | exact Nat.le_refl _⟩, ⟨bP BK624⟩, ⟨bP BK625⟩, ⟨bP BK626⟩, ⟨bP BK627⟩, ⟨bU BK628⟩, ⟨bZ HB⟩⟩
   ·replace c21 := Bool.eq_false_iff.mpr c21
    subst c21
    rw [if_neg (show ¬ (false = true) by decide)] at H
    by_cases c31 : a2_2 = true
    ·subst c31
     rw [if_pos rfl] at H
     have H' := Aside0.mk H
     clear H
     have hnb32 := NB624_625.out
     have hnc32 := NB625_624.out
     have hnb33 := NB624_626.out
     have hnc33 := NB626_624.out
     have hnb34 := NB624_627.out
     have hnc34 := NB627_624.out
     have hnb35 := NB624_628.out
     have hnc35 := NB628_624.out
     obtain ⟨hcz36_0, hcz36_1, hcz36_2, hfz36_0, hfz36_1, hfz36_2⟩ := bK3 (w := w9) BK624
     have hnb37 := NB625_626.out
     have hnc37 := NB626_625.out
     have hnb38 := NB625_627.out
     have hnc38 := NB627_625.out
     have hnb39 := NB625_628.out
     have hnc39 := NB628_625.out
     obtain ⟨hcz40_0, hcz40_1, hcz40_2, hfz40_0, hfz40_1, hfz40_2⟩ := bK3 (w := w9) BK625
     have hnb41 := NB626_627.out
     have hnc41 := NB627_626.out
     have hnb42 := NB626_628.out
     have hnc42 := NB628_626.out
     obtain ⟨hcz43_0, hcz43_1, hcz43_2, hfz43_0, hfz43_1, hfz43_2⟩ := bK3 (w := w9) BK626
     go_wp2
     go_meet
     case rel => exact ⟨_, (true), rS, H', ⟨by first | omega | exact Nat.le_refl _⟩, ⟨bP BK624⟩, ⟨bP BK625⟩, ⟨bP BK626⟩, ⟨bP BK627⟩, ⟨bU BK628⟩, ⟨bZ HB⟩⟩
    ·replace c31 := Bool.eq_false_iff.mpr c31
     subst c31
     rw [if_neg (show ¬ (false = true) by decide)] at H
     replace H := Option.bind_eq_some_iff.mp H
     obtain ⟨t629, A440, H⟩ := H
     have A44 := Aside0.mk A440
     clear A440
     by_cases c45 : t629 = true
     ·subst c45
      rw [if_pos rfl] at H
      replace H := Option.bind_eq_some_iff.mp H
      obtain ⟨t630, A460, H⟩ := H
      have A46 := Aside0.mk A460
      clear A460
      by_cases c47 : t630 = true
      ·subst c47
       rw [if_pos rfl] at H
       replace H := Option.bind_eq_some_iff.mp H
       obtain ⟨t631, A480, H⟩ := H
       have A48 := Aside0.mk A480
       clear A480
       have H' := Aside0.mk H
       clear H
       have hnb49 := NB624_625.out
       have hnc49 := NB625_624.out
       have hnb50 := NB624_626.out
       have hnc50 := NB626_624.out
       have hnb51 := NB624_627.out
       have hnc51 := NB627_624.out
       have hnb52 := NB624_628.out
       have hnc52 := NB628_624.out
       obtain ⟨hcz53_0, hcz53_1, hcz53_2, hfz53_0, hfz53_1, hfz53_2⟩ := bK3 (w := w9) BK624
       have hnb54 := NB625_626.out
       have hnc54 := NB626_625.out
       have hnb55 := NB625_627.out
       have hnc55 := NB627_625.out
       have hnb56 := NB625_628.out
       have hnc56 := NB628_625.out
       obtain ⟨hcz57_0, hcz57_1, hcz57_2, hfz57_0, hfz57_1, hfz57_2⟩ := bK3 (w := w9) BK625
       have hnb58 := NB626_627.out
       have hnc58 := NB627_626.out
       have hnb59 := NB626_628.out
       have hnc59 := NB628_626.out
       obtain ⟨hcz60_0, hcz60_1, hcz60_2, hfz60_0, hfz60_1, hfz60_2⟩ := bK3 (w := w9) BK626
       go_wp2_with (first | (go_at_call 97; (with_reducible refine (impl_PointOk.calls a0_0 a0_1 false true _ A44.out).mono ?_); rintro e w61 ⟨rfl, hb⟩; replace BK624 := bB BK624 hb; replace BK625 := bB BK625 hb; replace BK626 := bB BK626 hb; replace BK627 := bB BK627 hb; replace BK628 := bV 80 #[.int .i64 1, .int .i64 0] BK628 hb; replace HB := bS HB hb; (try clear hb); obtain ⟨hcz62_0, hcz62_1, hcz62_2, hfz62_0, hfz62_1, hfz62_2⟩ := bK3 (w := w61) BK625) | (go_at_call 97; (with_reducible refine (impl_PointOk.calls a1_0 a1_1 false true _ A46.out).mono ?_); rintro e w63 ⟨rfl, hb⟩; replace BK624 := bB BK624 hb; replace BK625 := bB BK625 hb; replace BK626 := bB BK626 hb; replace BK627 := bB BK627 hb; replace BK628 := bB BK628 hb; replace HB := bS HB hb; (try clear hb); obtain ⟨hcz64_0, hcz64_1, hcz64_2, hfz64_0, hfz64_1, hfz64_2⟩ := bK3 (w := w63) BK626) | (go_at_call 97; (with_reducible refine (impl_PointOk.calls a2_0 a2_1 false t631 _ A48.out).mono ?_); rintro e w65 ⟨rfl, hb⟩; replace BK624 := bB BK624 hb; replace BK625 := bB BK625 hb; replace BK626 := bB BK626 hb; replace BK627 := bB BK627 hb; replace BK628 := bB BK628 hb; replace HB := bS HB hb; (try clear hb)))
       go_meet
       case rel => exact ⟨_, (!t631), rS, H', ⟨by first | omega | exact Nat.le_refl _⟩, ⟨bP BK624⟩, ⟨bP BK625⟩, ⟨bP BK626⟩, ⟨bP BK627⟩, ⟨bP BK628⟩, ⟨bZ HB⟩⟩
      ·replace c47 := Bool.eq_false_iff.mpr c47
       subst c47
       rw [if_neg (show ¬ (false = true) by decide)] at H
       have H' := Aside0.mk H
       clear H
       have hnb66 := NB624_625.out
       have hnc66 := NB625_624.out
       have hnb67 := NB624_626.out
       have hnc67 := NB626_624.out
       have hnb68 := NB624_627.out
       have hnc68 := NB627_624.out
       have hnb69 := NB624_628.out
       have hnc69 := NB628_624.out
       obtain ⟨hcz70_0, hcz70_1, hcz70_2, hfz70_0, hfz70_1, hfz70_2⟩ := bK3 (w := w9) BK624
       have hnb71 := NB625_626.out
       have hnc71 := NB626_625.out
       have hnb72 := NB625_627.out
       have hnc72 := NB627_625.out
       have hnb73 := NB625_628.out
       have hnc73 := NB628_625.out
       obtain ⟨hcz74_0, hcz74_1, hcz74_2, hfz74_0, hfz74_1, hfz74_2⟩ := bK3 (w := w9) BK625
       have hnb75 := NB626_627.out
       have hnc75 := NB627_626.out
       have hnb76 := NB626_628.out
       have hnc76 := NB628_626.out
       obtain ⟨hcz77_0, hcz77_1, hcz77_2, hfz77_0, hfz77_1, hfz77_2⟩ := bK3 (w := w9) BK626
       go_wp2_with (first | (go_at_call 97; (with_reducible refine (impl_PointOk.calls a0_0 a0_1 false true _ A44.out).mono ?_); rintro e w78 ⟨rfl, hb⟩; replace BK624 := bB BK624 hb; replace BK625 := bB BK625 hb; replace BK626 := bB BK626 hb; replace BK627 := bB BK627 hb; replace BK628 := bV 80 #[.int .i64 1, .int .i64 0] BK628 hb; replace HB := bS HB hb; (try clear hb); obtain ⟨hcz79_0, hcz79_1, hcz79_2, hfz79_0, hfz79_1, hfz79_2⟩ := bK3 (w := w78) BK625) | (go_at_call 97; (with_reducible refine (impl_PointOk.calls a1_0 a1_1 false false _ A46.out).mono ?_); rintro e w80 ⟨rfl, hb⟩; replace BK624 := bB BK624 hb; replace BK625 := bB BK625 hb; replace BK626 := bB BK626 hb; replace BK627 := bB BK627 hb; replace BK628 := bB BK628 hb; replace HB := bS HB hb; (try clear hb)))
       go_meet
       case rel => exact ⟨_, (true), rS, H', ⟨by first | omega | exact Nat.le_refl _⟩, ⟨bP BK624⟩, ⟨bP BK625⟩, ⟨bP BK626⟩, ⟨bP BK627⟩, ⟨bP BK628⟩, ⟨bZ HB⟩⟩
     ·replace c45 := Bool.eq_false_iff.mpr c45
      subst c45
      rw [if_neg (show ¬ (false = true) by decide)] at H
      have H' := Aside0.mk H
      clear H
      have hnb81 := NB624_625.out
      have hnc81 := NB625_624.out
      have hnb82 := NB624_626.out
      have hnc82 := NB626_624.out
      have hnb83 := NB624_627.out
      have hnc83 := NB627_624.out
      have hnb84 := NB624_628.out
      have hnc84 := NB628_624.out
      obtain ⟨hcz85_0, hcz85_1, hcz85_2, hfz85_0, hfz85_1, hfz85_2⟩ := bK3 (w := w9) BK624
      have hnb86 := NB625_626.out
      have hnc86 := NB626_625.out
      have hnb87 := NB625_627.out
      have hnc87 := NB627_625.out
      have hnb88 := NB625_628.out
      have hnc88 := NB628_625.out
      obtain ⟨hcz89_0, hcz89_1, hcz89_2, hfz89_0, hfz89_1, hfz89_2⟩ := bK3 (w := w9) BK625
      have hnb90 := NB626_627.out
      have hnc90 := NB627_626.out
      have hnb91 := NB626_628.out
      have hnc91 := NB628_626.out
      obtain ⟨hcz92_0, hcz92_1, hcz92_2, hfz92_0, hfz92_1, hfz92_2⟩ := bK3 (w := w9) BK626
      go_wp2_with (first | (go_at_call 97; (with_reducible refine (impl_PointOk.calls a0_0 a0_1 false false _ A44.out).mono ?_); rintro e w93 ⟨rfl, hb⟩; replace BK624 := bB BK624 hb; replace BK625 := bB BK625 hb; replace BK626 := bB BK626 hb; replace BK627 := bB BK627 hb; replace BK628 := bV 80 #[.int .i64 1, .int .i64 0] BK628 hb; replace HB := bS HB hb; (try clear hb)))
      go_meet
      case rel => exact ⟨_, (true), rS, H', ⟨by first | omega | exact Nat.le_refl _⟩, ⟨bP BK624⟩, ⟨bP BK625⟩, ⟨bP BK626⟩, ⟨bP BK627⟩, ⟨bP BK628⟩, ⟨bZ HB⟩⟩
 case rest =>
  clear HC4
  try clear c1
  try clear c2
  try clear p2
  try clear c3
  try clear c4
  try clear c5
  try clear c6
  try clear c7
  try clear c8
  try clear c9
  try clear c10
  try clear c11
  try clear c12
  try clear c13
  try clear c15
  try clear c16
  try clear c17
  try clear c18
  try clear c19
  try clear c21
  try clear c22
  try clear c23
  try clear c24
  try clear c25
  try clear c27
  try clear c28
  try clear c29
  try clear c31
  try clear c32
  try clear c33
  try clear c34
  try clear c35
  try clear c37
  try clear c38
  try clear c39
  try clear c41
  try clear c42
  try clear c45
  try clear c47
  try clear c49
  try clear c50
  try clear c51
  try clear c52
  try clear c54
  try clear c55
  try clear c56
  try clear c58
  try clear c59
  try clear c66
  try clear c67
  try clear c68
  try clear c69
  try clear c71
  try clear c72
  try clear c73
  try clear c75
  try clear c76
  try clear c81
  try clear c82
  try clear c83
  try clear c84
  try clear c86
  try clear c87
  try clear c88
  try clear c90
  try clear c91
  try clear hcz14_0
  try clear hcz14_1
  try clear hcz20_0
  try clear hcz20_1
  try clear hcz20_2
  try clear hcz26_0
  try clear hcz26_1
  try clear hcz26_2
  try clear hcz30_0
  try clear hcz30_1
  try clear hcz30_2
  try clear hcz36_0
  try clear hcz36_1
  try clear hcz36_2
  try clear hcz40_0
  try clear hcz40_1
  try clear hcz40_2
  try clear hcz43_0
  try clear hcz43_1
  try clear hcz43_2
  try clear hcz53_0
  try clear hcz53_1
  try clear hcz53_2
  try clear hcz57_0
  try clear hcz57_1
  try clear hcz57_2
  try clear hcz60_0
  try clear hcz60_1
  try clear hcz60_2
  try clear hcz62_0
  try clear hcz62_1
  try clear hcz62_2
  try clear hcz64_0
  try clear hcz64_1
  try clear hcz64_2
  try clear hcz70_0
  try clear hcz70_1
  try clear hcz70_2
  try clear hcz74_0
  try clear hcz74_1
  try clear hcz74_2
  try clear hcz77_0
  try clear hcz77_1
  try clear hcz77_2
  try clear hcz79_0
  try clear hcz79_1
  try clear hcz79_2
  try clear hcz85_0
  try clear hcz85_1
  try clear hcz85_2
  try clear hcz89_0
  try clear hcz89_1
  try clear hcz89_2
  try clear hcz92_0
  try clear hcz92_1
  try clear hcz92_2
  try clear hfz14_0
  try clear hfz14_1
  try clear hfz20_0
  try clear hfz20_1
  try clear hfz20_2
  try clear hfz26_0
  try clear hfz26_1
  try clear hfz26_2
  try clear hfz30_0
  try clear hfz30_1
  try clear hfz30_2
  try clear hfz36_0
  try clear hfz36_1
  try clear hfz36_2
  try clear hfz40_0
  try clear hfz40_1
  try clear hfz40_2
  try clear hfz43_0
  try clear hfz43_1
  try clear hfz43_2
  try clear hfz53_0
  try clear hfz53_1
  try clear hfz53_2
  try clear hfz57_0
  try clear hfz57_1
  try clear hfz57_2
  try clear hfz60_0
  try clear hfz60_1
  try clear hfz60_2
  try clear hfz62_0
  try clear hfz62_1
  try clear hfz62_2
  try clear hfz64_0
  try clear hfz64_1
  try clear hfz64_2
  try clear hfz70_0
  try clear hfz70_1
  try clear hfz70_2
  try clear hfz74_0
  try clear hfz74_1
  try clear hfz74_2
  try clear hfz77_0
  try clear hfz77_1
  try clear hfz77_2
  try clear hfz79_0
  try clear hfz79_1
  try clear hfz79_2
  try clear hfz85_0
  try clear hfz85_1
  try clear hfz85_2
  try clear hfz89_0
  try clear hfz89_1
  try clear hfz89_2
  try clear hfz92_0
  try clear hfz92_1
  try clear hfz92_2
  obtain ⟨kq, x36_3, rfl, HA, HJ3, BK624, BK625, BK626, BK627, BK628, HB⟩ := hcut
  cases kq with
  | zero => exact absurd HA.out (by simp [impl_PairLine.j0])
  | succ kj3 =>
   have H := HA.out
   clear HA
   simp only [impl_PairLine.j0] at H
   by_cases c94 : x36_3 = true
   ·subst c94
    rw [if_pos rfl] at H
    simp only [Option.some.injEq, Prod.mk.injEq] at H
    obtain ⟨rfl, rfl⟩ := H
    have hnb95 := NB628_624.out
    have hnc95 := NB624_628.out
    have hnb96 := NB628_625.out
    have hnc96 := NB625_628.out
    have hnb97 := NB628_626.out
    have hnc97 := NB626_628.out
    have hnb98 := NB628_627.out
    have hnc98 := NB627_628.out
    obtain ⟨hcz99_0, hcz99_1, hfz99_0, hfz99_1⟩ := bK2 (w := wc) BK628
    have hnb100 := NB627_624.out
    have hnc100 := NB624_627.out
    have hnb101 := NB627_625.out
    have hnc101 := NB625_627.out
    have hnb102 := NB627_626.out
    have hnc102 := NB626_627.out
    obtain ⟨hcz103_0, hcz103_1, hfz103_0, hfz103_1⟩ := bK2 (w := wc) BK627
    go_wp2
    refine rC gb627 80 #[.int .i64 1, .int .i64 0] (bU BK627) Tryd.underlying80 ?_
    exact ⟨rR, bZ HB⟩
   ·replace c94 := Bool.eq_false_iff.mpr c94
    subst c94
    rw [if_neg (show ¬ (false = true) by decide)] at H
    replace H := Option.bind_eq_some_iff.mp H
    obtain ⟨⟨t632, t633⟩, A1040, H⟩ := H
    have A104 := Aside0.mk A1040
    clear A1040
    by_cases c105 : t633 = true
    ·subst c105
     rw [if_pos rfl] at H
     replace H := Option.bind_eq_some_iff.mp H
     obtain ⟨t634, A1060, H⟩ := H
     have A106 := Aside0.mk A1060
     clear A1060
     replace H := Option.bind_eq_some_iff.mp H
     obtain ⟨t635, A1070, H⟩ := H
     have A107 := Aside0.mk A1070
     clear A1070
     replace H := Option.bind_eq_some_iff.mp H
     obtain ⟨t636, A1080, H⟩ := H
     have A108 := Aside0.mk A1080
     clear A1080
     replace H := Option.bind_eq_some_iff.mp H
     obtain ⟨t637, A1090, H⟩ := H
     have A109 := Aside0.mk A1090
     clear A1090
     replace H := Option.bind_eq_some_iff.mp H
     obtain ⟨t638, A1100, H⟩ := H
     have A110 := Aside0.mk A1100
     clear A1100
     simp only [Option.some.injEq, Prod.mk.injEq] at H
     obtain ⟨rfl, rfl⟩ := H
     have hnb111 := NB624_625.out
     have hnc111 := NB625_624.out
     have hnb112 := NB624_626.out
     have hnc112 := NB626_624.out
     have hnb113 := NB624_627.out
     have hnc113 := NB627_624.out
     have hnb114 := NB624_628.out
     have hnc114 := NB628_624.out
     obtain ⟨hcz115_0, hcz115_1, hcz115_2, hfz115_0, hfz115_1, hfz115_2⟩ := bK3 (w := wc) BK624
     have hnb116 := NB625_626.out
     have hnc116 := NB626_625.out
     have hnb117 := NB625_627.out
     have hnc117 := NB627_625.out
     have hnb118 := NB625_628.out
     have hnc118 := NB628_625.out
     obtain ⟨hcz119_0, hcz119_1, hcz119_2, hfz119_0, hfz119_1, hfz119_2⟩ := bK3 (w := wc) BK625
     try go_wp2_with (first | ((with_reducible refine gate_callee (f := 125) rfl ?_); refine gL (some 41) Tryd.func125 #[.agg #[.int .i64 a0_0, .int .i64 a0_1, .bool a0_2], .agg #[.int .i64 a1_0, .int .i64 a1_1, .bool a1_2]] ?_; (with_reducible refine (impl_slopeOf.calls kj3 a0_0 a0_1 a0_2 a1_0 a1_1 a1_2 t632 true _ A104.out).mono ?_); rintro e w120 ⟨rfl, hb⟩; refine ⟨_, rfl, ?_⟩; replace BK624 := bB BK624 hb; replace BK625 := bB BK625 hb; replace BK626 := bB BK626 hb; replace BK627 := bB BK627 hb; replace BK628 := bB BK628 hb; replace HB := bS HB hb; (try clear hb)))
     replace BK624 := Aside0.mk (blk_drew BK624.out)
     replace BK625 := Aside0.mk (blk_drew BK625.out)
     replace BK626 := Aside0.mk (blk_drew BK626.out)
     replace BK627 := Aside0.mk (blk_drew BK627.out)
     replace BK628 := Aside0.mk (blk_drew BK628.out)
     replace HB := Aside0.mk (below_drew1 HB.out)
     refine start_ (n := 7) (S := fun w' => w'.cell? ⟨gb626, 0, none⟩ = some (.int .i64 a2_0) ∧ w'.cell? ⟨gb626, 1, none⟩ = some (.int .i64 a2_1) ∧ w'.cell? ⟨gb626, 2, none⟩ = some (.bool a2_2) ∧ w'.cell? ⟨gb624, 0, none⟩ = some (.int .i64 a0_0) ∧ w'.cell? ⟨gb624, 1, none⟩ = some (.int .i64 a0_1) ∧ w'.cell? ⟨gb624, 2, none⟩ = some (.bool a0_2)) (ds := []) #[false, false, false, false, false, false, false] (by kernel_rfl) rfl rfl ⟨bc BK626 0, bc BK626 1, bc BK626 2, bc BK624 0, bc BK624 1, bc BK624 2⟩ (fun hHeld => ?_)
     generalize w120.drew = w121 at BK624 BK625 BK626 BK627 BK628 HB hHeld ⊢
     refine pure_ (i := 0) (N := some 47) (v := ?_) (a' := ?_) #[true, false, false, false, false, false, false] rfl rfl (by kernel_rfl) (fun _ _ _ h => h) (Or.inl ⟨by rfl, ?_⟩) ?_ ?_
     rotate_left
     ·intro w'
      go_simp
      with_reducible rfl
     rotate_left
     ·simp only [Act.put, List.setIfInBounds_toArray, List.set_cons_zero, List.set_cons_succ, i64_w, i32_w]
      rfl
     refine pure_ (i := 3) (N := some 50) (v := ?_) (a' := ?_) #[true, false, false, true, false, false, false] rfl rfl (by kernel_rfl) (fun _ _ _ h => h) (Or.inl ⟨by rfl, ?_⟩) ?_ ?_
     rotate_left
     ·intro w'
      go_simp
      with_reducible rfl
     rotate_left
     ·simp only [Act.put, List.setIfInBounds_toArray, List.set_cons_zero, List.set_cons_succ, i64_w, i32_w]
      rfl
     refine take_ (i := 1) (N := some 48) (v := ?_) (a' := ?_) #[true, true, false, true, false, false, false] rfl rfl (by kernel_rfl) (fun _ _ _ h => h) (Or.inl ⟨by rfl, ?_⟩) hHeld ?_ ?_
     rotate_left
     ·rintro w' ⟨s0, s1, s2, s3, s4, s5⟩
      go_simp
      with_reducible rfl
     rotate_left
     ·simp only [Act.put, List.setIfInBounds_toArray, List.set_cons_zero, List.set_cons_succ, i64_w, i32_w]
      rfl
     refine take_ (i := 4) (N := some 51) (v := ?_) (a' := ?_) #[true, true, false, true, true, false, false] rfl rfl (by kernel_rfl) (fun _ _ _ h => h) (Or.inl ⟨by rfl, ?_⟩) hHeld ?_ ?_
     rotate_left
     ·rintro w' ⟨s0, s1, s2, s3, s4, s5⟩
      go_simp
      with_reducible rfl
     rotate_left
     ·simp only [Act.put, List.setIfInBounds_toArray, List.set_cons_zero, List.set_cons_succ, i64_w, i32_w]
      rfl
     refine one_ (i := 2) (N := some 49) #[true, true, true, true, true, false, false] rfl rfl (by kernel_rfl) (by decide) (fun K hK => ?_)
     refine gO Tryd.func126 #[.int .i64 0, .int .i64 a2_0] ?_
     with_reducible refine (impl_FpSub.calls 0 a2_0 t634 _ A106.out).mono ?_
     rintro e w' ⟨rfl, ⟨nd, rfl⟩⟩
     refine ⟨_, rfl, ?_⟩
     refine hK.out _ _ ⟨bc BK626 0, bc BK626 1, bc BK626 2, bc BK624 0, bc BK624 1, bc BK624 2⟩ (fun hHeld => ?_)
     clear hK K
     refine nO (some 49) ?_
     refine one_ (i := 5) (N := some 52) #[true, true, true, true, true, true, false] rfl rfl (by kernel_rfl) (by decide) (fun K hK => ?_)
     refine gO Tryd.func126 #[.int .i64 t634, .int .i64 a0_0] ?_
     with_reducible refine (impl_FpSub.calls t634 a0_0 t635 _ A107.out).mono ?_
     rintro e w' ⟨rfl, ⟨nd, rfl⟩⟩
     refine ⟨_, rfl, ?_⟩
     refine hK.out _ _ ⟨bc BK626 0, bc BK626 1, bc BK626 2, bc BK624 0, bc BK624 1, bc BK624 2⟩ (fun hHeld => ?_)
     clear hK K
     refine nO (some 52) ?_
     refine pure_ (i := 6) (N := some 10) (v := ?_) (a' := ?_) #[true, true, true, true, true, true, true] rfl rfl (by kernel_rfl) (fun _ _ _ h => h) (Or.inl ⟨by rfl, ?_⟩) ?_ ?_
     rotate_left
     ·intro w'
      go_simp
      with_reducible rfl
     rotate_left
     ·simp only [Act.put, List.setIfInBounds_toArray, List.set_cons_zero, List.set_cons_succ, i64_w, i32_w]
      rfl
     refine done_ (by kernel_rfl) ?_
     try go_wp2
     (try simp only [World.drewN_drewN]); (try (rw [drewN_self w121]; generalize hq_ : World.drewN w121 _ = w121; replace BK624 : Aside0 (w121.heap[gb624]? = some (.cells #[.int .i64 a0_0, .int .i64 a0_1, .bool a0_2] 23 (0, 0))) := ⟨by rw [← hq_]; exact (bP BK624)⟩; replace BK625 : Aside0 (w121.heap[gb625]? = some (.cells #[.int .i64 a1_0, .int .i64 a1_1, .bool a1_2] 23 (0, 0))) := ⟨by rw [← hq_]; exact (bP BK625)⟩; replace BK626 : Aside0 (w121.heap[gb626]? = some (.cells #[.int .i64 a2_0, .int .i64 a2_1, .bool a2_2] 23 (0, 0))) := ⟨by rw [← hq_]; exact (bP BK626)⟩; replace BK627 : Aside0 (w121.heap[gb627]? = some (.cells #[.int .i64 0, .int .i64 0] 80 (0, 0))) := ⟨by rw [← hq_]; exact (bP BK627)⟩; replace BK628 : Aside0 (w121.heap[gb628]? = some (.cells #[.int .i64 1, .int .i64 0] 80 (0, 0))) := ⟨by rw [← hq_]; exact (bP BK628)⟩; replace HB : Aside0 (Below w.heap.size w w121) := ⟨by rw [← hq_]; exact (bZ HB)⟩; clear hq_))
     replace BK624 := Aside0.mk (blk_drew BK624.out)
     replace BK625 := Aside0.mk (blk_drew BK625.out)
     replace BK626 := Aside0.mk (blk_drew BK626.out)
     replace BK627 := Aside0.mk (blk_drew BK627.out)
     replace BK628 := Aside0.mk (blk_drew BK628.out)
     replace HB := Aside0.mk (below_drew1 HB.out)
     refine start_ (n := 11) (S := fun w' => w'.cell? ⟨gb624, 0, none⟩ = some (.int .i64 a0_0) ∧ w'.cell? ⟨gb624, 1, none⟩ = some (.int .i64 a0_1) ∧ w'.cell? ⟨gb624, 2, none⟩ = some (.bool a0_2) ∧ w'.cell? ⟨gb626, 0, none⟩ = some (.int .i64 a2_0) ∧ w'.cell? ⟨gb626, 1, none⟩ = some (.int .i64 a2_1) ∧ w'.cell? ⟨gb626, 2, none⟩ = some (.bool a2_2)) (ds := []) #[false, false, false, false, false, false, false, false, false, false, false] (by kernel_rfl) rfl rfl ⟨bc BK624 0, bc BK624 1, bc BK624 2, bc BK626 0, bc BK626 1, bc BK626 2⟩ (fun hHeld => ?_); refine with_tabW impl_PairLine.tab8 impl_PairLine.bits8 (fun HT_ HW_ => ?_)
     generalize w121.drew = w122 at BK624 BK625 BK626 BK627 BK628 HB hHeld ⊢
     refine pI 0 (some 53) HT_.out ?_
     refine pI 3 (some 56) HT_.out ?_
     refine pI 4 (some 57) HT_.out ?_
     refine pI 7 (some 60) HT_.out ?_
     refine tI6 1 (some 54) HT_.out HW_.out hHeld ?_
     refine tI6 8 (some 61) HT_.out HW_.out hHeld ?_
     refine oI 2 (some 55) HT_.out (fun K hK => ?_)
     refine gO Tryd.func126 #[.int .i64 0, .int .i64 a0_1] ?_
     with_reducible refine (impl_FpSub.calls 0 a0_1 t636 _ A108.out).mono ?_
     rintro e w' ⟨rfl, ⟨nd, rfl⟩⟩
     refine ⟨_, rfl, ?_⟩
     refine hK.out _ _ ⟨bc BK624 0, bc BK624 1, bc BK624 2, bc BK626 0, bc BK626 1, bc BK626 2⟩ (fun hHeld => ?_)
     clear hK K
     refine nO (some 55) ?_
     refine oI 5 (some 58) HT_.out (fun K hK => ?_)
     refine gO Tryd.func95 #[.int .i64 t632, .int .i64 t635] ?_
     with_reducible refine (impl_FpMul.calls t632 t635 t637 _ A109.out).mono ?_
     rintro e w' ⟨rfl, ⟨nd, rfl⟩⟩
     refine ⟨_, rfl, ?_⟩
     refine hK.out _ _ ⟨bc BK624 0, bc BK624 1, bc BK624 2, bc BK626 0, bc BK626 1, bc BK626 2⟩ (fun hHeld => ?_)
     clear hK K
     refine nO (some 58) ?_
     refine oI 6 (some 59) HT_.out (fun K hK => ?_)
     refine gO Tryd.func126 #[.int .i64 t636, .int .i64 t637] ?_
     with_reducible refine (impl_FpSub.calls t636 t637 t638 _ A110.out).mono ?_
     rintro e w' ⟨rfl, ⟨nd, rfl⟩⟩
     refine ⟨_, rfl, ?_⟩
     refine hK.out _ _ ⟨bc BK624 0, bc BK624 1, bc BK624 2, bc BK626 0, bc BK626 1, bc BK626 2⟩ (fun hHeld => ?_)
     clear hK K
     refine nO (some 59) ?_
     refine pI 9 (some 62) HT_.out ?_
     refine oI 10 (none) HT_.out (fun K hK => ?_)
     have hs123 : w122.cell? ⟨gb627, 0, none⟩ = some (.int .i64 0) := bc BK627 0
     have hfs123 := blk_frozen BK627.out 0
     have hns123_0 := NB624_627.out
     have hns123_1 := NB625_627.out
     have hns123_2 := NB626_627.out
     have hns123_4 := NB628_627.out
     have hms123_0 := NB627_624.out
     have hms123_1 := NB627_625.out
     have hms123_2 := NB627_626.out
     have hms123_4 := NB627_628.out
     have hs124 : w122.cell? ⟨gb627, 1, none⟩ = some (.int .i64 0) := bc BK627 1
     have hfs124 := blk_frozen BK627.out 1
     have hns124_0 := NB624_627.out
     have hns124_1 := NB625_627.out
     have hns124_2 := NB626_627.out
     have hns124_4 := NB628_627.out
     have hms124_0 := NB627_624.out
     have hms124_1 := NB627_625.out
     have hms124_2 := NB627_626.out
     have hms124_4 := NB627_628.out
     refine skip_ (w1 := ?_) (by rfl) rfl ?_ ?_
     rotate_left
     ·go_simp
      rfl
     refine hK.out _ _ ⟨((cell_far (p := ⟨gb627, _, none⟩) NB624_627.out _).trans (((cell_far (p := ⟨gb627, _, none⟩) NB624_627.out _).trans (hHeld.1)))), ((cell_far (p := ⟨gb627, _, none⟩) NB624_627.out _).trans (((cell_far (p := ⟨gb627, _, none⟩) NB624_627.out _).trans (hHeld.2.1)))), ((cell_far (p := ⟨gb627, _, none⟩) NB624_627.out _).trans (((cell_far (p := ⟨gb627, _, none⟩) NB624_627.out _).trans (hHeld.2.2.1)))), ((cell_far (p := ⟨gb627, _, none⟩) NB626_627.out _).trans (((cell_far (p := ⟨gb627, _, none⟩) NB626_627.out _).trans (hHeld.2.2.2.1)))), ((cell_far (p := ⟨gb627, _, none⟩) NB626_627.out _).trans (((cell_far (p := ⟨gb627, _, none⟩) NB626_627.out _).trans (hHeld.2.2.2.2.1)))), ((cell_far (p := ⟨gb627, _, none⟩) NB626_627.out _).trans (((cell_far (p := ⟨gb627, _, none⟩) NB626_627.out _).trans (hHeld.2.2.2.2.2))))⟩ (fun hHeld => ?_)
     clear hK K
     refine done_ (done_of HT_.out (by kernel_rfl)) ?_
     try go_wp2
     refine rC gb627 80 #[.int .i64 t638, .int .i64 a2_1] (bU BK627) Tryd.underlying80 ?_
     exact ⟨rR, bZ HB⟩
    ·replace c105 := Bool.eq_false_iff.mpr c105
     subst c105
     rw [if_neg (show ¬ (false = true) by decide)] at H
     simp only [Option.some.injEq, Prod.mk.injEq] at H
     obtain ⟨rfl, rfl⟩ := H
     have hnb125 := NB624_625.out
     have hnc125 := NB625_624.out
     have hnb126 := NB624_626.out
     have hnc126 := NB626_624.out
     have hnb127 := NB624_627.out
     have hnc127 := NB627_624.out
     have hnb128 := NB624_628.out
     have hnc128 := NB628_624.out
     obtain ⟨hcz129_0, hcz129_1, hcz129_2, hfz129_0, hfz129_1, hfz129_2⟩ := bK3 (w := wc) BK624
     have hnb130 := NB625_626.out
     have hnc130 := NB626_625.out
     have hnb131 := NB625_627.out
     have hnc131 := NB627_625.out
     have hnb132 := NB625_628.out
     have hnc132 := NB628_625.out
     obtain ⟨hcz133_0, hcz133_1, hcz133_2, hfz133_0, hfz133_1, hfz133_2⟩ := bK3 (w := wc) BK625
     go_wp2_with (first | ((with_reducible refine gate_callee (f := 125) rfl ?_); refine gL (some 41) Tryd.func125 #[.agg #[.int .i64 a0_0, .int .i64 a0_1, .bool a0_2], .agg #[.int .i64 a1_0, .int .i64 a1_1, .bool a1_2]] ?_; (with_reducible refine (impl_slopeOf.calls kj3 a0_0 a0_1 a0_2 a1_0 a1_1 a1_2 t632 false _ A104.out).mono ?_); rintro e w134 ⟨rfl, hb⟩; refine ⟨_, rfl, ?_⟩; replace BK624 := bB BK624 hb; replace BK625 := bB BK625 hb; replace BK626 := bB BK626 hb; replace BK627 := bB BK627 hb; replace BK628 := bB BK628 hb; replace HB := bS HB hb; (try clear hb); have hnb135 := NB628_626.out; have hnc135 := NB626_628.out; have hnb136 := NB628_627.out; have hnc136 := NB627_628.out; obtain ⟨hcz137_0, hcz137_1, hfz137_0, hfz137_1⟩ := bK2 (w := w134) BK628; have hnb138 := NB627_626.out; have hnc138 := NB626_627.out; obtain ⟨hcz139_0, hcz139_1, hfz139_0, hfz139_1⟩ := bK2 (w := w134) BK627))
     refine rC gb627 80 #[.int .i64 1, .int .i64 0] (bU BK627) Tryd.underlying80 ?_
     exact ⟨rR, bZ HB⟩
/-! ### impl_Miller: function 107 -/
def impl_Miller.l0 : Nat → Int → Int → Int → Bool → Int → Int → Bool → Int → Int → Int → Int → Bool → Option (Int × Int)
 | 0, _, _, _, _, _, _, _, _, _, _, _, _ => none
 | k + 1, x7, x640000, x640001, x640002, x641000, x641001, x641002, x643000, x643001, x644000, x644001, x644002 => if x7 ≥ 0 then ((impl_TwoMul.f x643000 x643001 x643000 x643001).bind fun bt645 => ((impl_PairLine.f k x644000 x644001 x644002 x644000 x644001 x644002 x641000 x641001 x641002).bind fun bt647 => ((impl_TwoMul.f bt645.1 bt645.2 bt647.1 bt647.2).bind fun bt649 => ((impl_PointAdd.f k x644000 x644001 x644002 x644000 x644001 x644002).bind fun bt651 => (if 0 ≤ (IntKind.u64.wrap (x7)) then (if (Go.bits .and .i64 (shr .i64 1009 (IntKind.u64.wrap (x7))) 1) = 1 then ((impl_PairLine.f k bt651.1 bt651.2.1 bt651.2.2 x640000 x640001 x640002 x641000 x641001 x641002).bind fun bt654 => ((impl_TwoMul.f bt649.1 bt649.2 bt654.1 bt654.2).bind fun bt656 => ((impl_PointAdd.f k bt651.1 bt651.2.1 bt651.2.2 x640000 x640001 x640002).bind fun bt658 => (impl_Miller.l0 k (wrap64 (x7 - 1)) x640000 x640001 x640002 x641000 x641001 x641002 bt656.1 bt656.2 bt658.1 bt658.2.1 bt658.2.2)))) else (impl_Miller.l0 k (wrap64 (x7 - 1)) x640000 x640001 x640002 x641000 x641001 x641002 bt649.1 bt649.2 bt651.1 bt651.2.1 bt651.2.2)) else (none)))))) else (some (x643000, x643001))
def impl_Miller.f (k : Nat) (a0_0 : Int) (a0_1 : Int) (a0_2 : Bool) (a1_0 : Int) (a1_1 : Int) (a1_2 : Bool) : Option (Int × Int) := (bits_Len.f k 1009).bind fun t644 => (impl_Miller.l0 k (wrap64 (t644 - 2)) a0_0 a0_1 a0_2 a1_0 a1_1 a1_2 1 0 a0_0 a0_1 a0_2)
theorem impl_Miller.mono_l : ∀ k, (∀ y0 y1 y2 y3 y4 y5 y6 y7 y8 y9 y10 y11, LeO (impl_Miller.l0 k y0 y1 y2 y3 y4 y5 y6 y7 y8 y9 y10 y11) (impl_Miller.l0 (k + 1) y0 y1 y2 y3 y4 y5 y6 y7 y8 y9 y10 y11))
 | 0 => fun _ _ _ _ _ _ _ _ _ _ _ _ r h => by simp [impl_Miller.l0] at h
 | k + 1 => by
  have ih0 := impl_Miller.mono_l k
  ·intro y0 y1 y2 y3 y4 y5 y6 y7 y8 y9 y10 y11
   unfold impl_Miller.l0
   repeat' first
   | (with_reducible exact ih0 _ _ _ _ _ _ _ _ _ _ _ _)
   | (with_reducible exact bits_Len.mono _ _)
   | (with_reducible exact impl_PairLine.mono _ _ _ _ _ _ _ _ _ _)
   | (with_reducible exact impl_PointAdd.mono _ _ _ _ _ _ _)
   | (with_reducible exact LeO.refl _)
   | (with_reducible exact LeO.none _)
   | (with_reducible refine LeO.ite ?_ ?_)
   | (with_reducible refine LeO.bind ?_ (fun _ => ?_))
   | exact ih0 _ _ _ _ _ _ _ _ _ _ _ _
   | exact bits_Len.mono _ _
   | exact impl_PairLine.mono _ _ _ _ _ _ _ _ _ _
   | exact impl_PointAdd.mono _ _ _ _ _ _ _
   | exact LeO.none _
   | refine LeO.ite ?_ ?_
   | refine LeO.bind ?_ (fun _ => ?_)
theorem impl_Miller.mono : ∀ a0 a1 a2 a3 a4 a5 k, LeO (impl_Miller.f k a0 a1 a2 a3 a4 a5) (impl_Miller.f (k + 1) a0 a1 a2 a3 a4 a5) := by
 intro a0 a1 a2 a3 a4 a5 k
 have ih0 := impl_Miller.mono_l k
 unfold impl_Miller.f
 repeat' first
   | (with_reducible exact ih0 _ _ _ _ _ _ _ _ _ _ _ _)
   | (with_reducible exact bits_Len.mono _ _)
   | (with_reducible exact impl_PairLine.mono _ _ _ _ _ _ _ _ _ _)
   | (with_reducible exact impl_PointAdd.mono _ _ _ _ _ _ _)
   | (with_reducible exact LeO.refl _)
   | (with_reducible exact LeO.none _)
   | (with_reducible refine LeO.ite ?_ ?_)
   | (with_reducible refine LeO.bind ?_ (fun _ => ?_))
   | exact ih0 _ _ _ _ _ _ _ _ _ _ _ _
   | exact bits_Len.mono _ _
   | exact impl_PairLine.mono _ _ _ _ _ _ _ _ _ _
   | exact impl_PointAdd.mono _ _ _ _ _ _ _
   | exact LeO.none _
   | refine LeO.ite ?_ ?_
   | refine LeO.bind ?_ (fun _ => ?_)
def impl_Miller.T6 : Bool × List (List Nat × List Nat) := (true, [([], []), ([], []), ([0, 1], [0, 1]), ([], []), ([], []), ([], []), ([3, 4, 5, 2], [3, 4, 5]), ([2, 6, 6], [2, 6]), ([7, 7, 0, 1, 2, 3, 4, 5, 6, 7], [7])])
def impl_Miller.B6 : List Nat := [0, 0, 3, 0, 0, 0, 63, 127, 255]
theorem impl_Miller.tab6 : rtab .any (opsOf Tryd.f107 6) = impl_Miller.T6 := by kernel_rfl
theorem impl_Miller.bits6 : waitsOk impl_Miller.T6.2 impl_Miller.B6 = true := by kernel_rfl
set_option maxHeartbeats 8000000 in
set_option maxRecDepth 100000 in
theorem impl_Miller.calls (k : Nat) (a0_0 : Int) (a0_1 : Int) (a0_2 : Bool) (a1_0 : Int) (a1_1 : Int) (a1_2 : Bool) (r1 : Int) (r2 : Int) (w : World) (h : impl_Miller.f k a0_0 a0_1 a0_2 a1_0 a1_1 a1_2 = some (r1, r2)) :
  Calls Tryd.prog 107 #[.agg #[.int .i64 a0_0, .int .i64 a0_1, .bool a0_2], .agg #[.int .i64 a1_0, .int .i64 a1_1, .bool a1_2]] w fun e w' => e = .returned (.agg #[.int .i64 r1, .int .i64 r2]) ∧ Below w.heap.size w w' := by
 have hu23 := Tryd.underlying23
 have hu80 := Tryd.underlying80
 have HB := Aside0.mk (Below.refl w.heap.size w)
 have H : ((bits_Len.f k 1009).bind fun t644 => (impl_Miller.l0 k (wrap64 (t644 - 2)) a0_0 a0_1 a0_2 a1_0 a1_1 a1_2 1 0 a0_0 a0_1 a0_2)) = some (r1, r2) := h
 clear h
 replace H := Option.bind_eq_some_iff.mp H
 obtain ⟨t644, A30, H⟩ := H
 have A3 := Aside0.mk A30
 clear A30
 have H' := Aside0.mk H
 clear H
 go_enter Tryd.func107, Tryd.ntmps107
 go_wp2_with (first | ((with_reducible refine gate_dst (N := 2) rfl ?_); refine bE 2 #[.int .i64 a0_0, .int .i64 a0_1, .bool a0_2] 23 ?_; intro gb639 hg w4 hbox hb; have BK639 := Aside0.mk (hbox); have GW639 := bG HB hg; have GE639 := bG HB hg; replace HB := bS HB hb; clear hb hbox hg) | ((with_reducible refine gate_dst (N := 3) rfl ?_); refine bE 3 #[.int .i64 a1_0, .int .i64 a1_1, .bool a1_2] 23 ?_; intro gb640 hg w5 hbox hb; have BK640 := Aside0.mk (hbox); have GW640 := bG HB hg; have GE640 := bG HB hg; replace HB := bS HB hb; have NB639_640 := bL BK639 hg; have NB640_639 := bR BK639 hg; replace BK639 := bB BK639 hb; clear hb hbox hg) | ((with_reducible refine gate_dst (N := 4) rfl ?_); refine bE 4 #[.int .i64 0, .int .i64 0] 80 ?_; intro gb641 hg w6 hbox hb; have BK641 := Aside0.mk (hbox); have GW641 := bG HB hg; have GE641 := bG HB hg; replace HB := bS HB hb; have NB639_641 := bL BK639 hg; have NB641_639 := bR BK639 hg; replace BK639 := bB BK639 hb; have NB640_641 := bL BK640 hg; have NB641_640 := bR BK640 hg; replace BK640 := bB BK640 hb; clear hb hbox hg) | ((with_reducible refine gate_dst (N := 5) rfl ?_); refine bE 5 #[.int .i64 0, .int .i64 0] 80 ?_; intro gb642 hg w7 hbox hb; have BK642 := Aside0.mk (hbox); have GW642 := bG HB hg; have GE642 := bG HB hg; replace HB := bS HB hb; have NB639_642 := bL BK639 hg; have NB642_639 := bR BK639 hg; replace BK639 := bB BK639 hb; have NB640_642 := bL BK640 hg; have NB642_640 := bR BK640 hg; replace BK640 := bB BK640 hb; have NB641_642 := bL BK641 hg; have NB642_641 := bR BK641 hg; replace BK641 := bB BK641 hb; clear hb hbox hg; have hnb8 := NB642_639.out; have hnc8 := NB639_642.out; have hnb9 := NB642_640.out; have hnc9 := NB640_642.out; have hnb10 := NB642_641.out; have hnc10 := NB641_642.out; obtain ⟨hcz11_0, hcz11_1, hfz11_0, hfz11_1⟩ := bK2 (w := w7) BK642; have hnb12 := NB639_640.out; have hnc12 := NB640_639.out; have hnb13 := NB639_641.out; have hnc13 := NB641_639.out; obtain ⟨hcz14_0, hcz14_1, hcz14_2, hfz14_0, hfz14_1, hfz14_2⟩ := bK3 (w := w7) BK639) | ((with_reducible refine gate_dst (N := 6) rfl ?_); refine bE 6 #[.int .i64 0, .int .i64 0, .bool false] 23 ?_; intro gb643 hg w15 hbox hb; have BK643 := Aside0.mk (hbox); have GW643 := bG HB hg; have GE643 := bG HB hg; replace HB := bS HB hb; have NB639_643 := bL BK639 hg; have NB643_639 := bR BK639 hg; replace BK639 := bB BK639 hb; have NB640_643 := bL BK640 hg; have NB643_640 := bR BK640 hg; replace BK640 := bB BK640 hb; have NB641_643 := bL BK641 hg; have NB643_641 := bR BK641 hg; replace BK641 := bB BK641 hb; have NB642_643 := Aside0.mk ((by rw [hg]; exact Nat.ne_of_lt (blk_lt (g := gb642) (o := .cells #[.int .i64 1, .int .i64 0] 80 (0, 0)) (bU BK642)) : gb642 ≠ gb643)); have NB643_642 := Aside0.mk ((by rw [hg]; exact Nat.ne_of_gt (blk_lt (g := gb642) (o := .cells #[.int .i64 1, .int .i64 0] 80 (0, 0)) (bU BK642)) : gb643 ≠ gb642)); replace BK642 := bV 80 #[.int .i64 1, .int .i64 0] BK642 hb; clear hb hbox hg; have hnb16 := NB643_639.out; have hnc16 := NB639_643.out; have hnb17 := NB643_640.out; have hnc17 := NB640_643.out; have hnb18 := NB643_641.out; have hnc18 := NB641_643.out; have hnb19 := NB643_642.out; have hnc19 := NB642_643.out; obtain ⟨hcz20_0, hcz20_1, hcz20_2, hfz20_0, hfz20_1, hfz20_2⟩ := bK3 (w := w15) BK643) | ((with_reducible refine gate_callee (f := 132) rfl ?_); refine gL (some 10) Tryd.func132 #[.int .u64 1009] ?_; (with_reducible refine (bits_Len.calls k 1009 t644 _ A3.out).mono ?_); rintro e w' ⟨rfl, ⟨nd, rfl⟩⟩; refine ⟨_, rfl, ?_⟩))
 go_loopg [7] k (fun kq v7 w' => ∃ (x7_1 : Int) (x643000_1 : Int) (x643001_1 : Int) (x644000_1 : Int) (x644001_1 : Int) (x644002_1 : Bool), v7 = .int .i64 x7_1 ∧ Aside0 (impl_Miller.l0 kq x7_1 a0_0 a0_1 a0_2 a1_0 a1_1 a1_2 x643000_1 x643001_1 x644000_1 x644001_1 x644002_1 = some (r1, r2)) ∧ Aside0 (kq ≤ k) ∧ Aside0 (w'.heap[gb639]? = some (.cells #[.int .i64 a0_0, .int .i64 a0_1, .bool a0_2] 23 (0, 0))) ∧ Aside0 (w'.heap[gb640]? = some (.cells #[.int .i64 a1_0, .int .i64 a1_1, .bool a1_2] 23 (0, 0))) ∧ Aside0 (w'.heap[gb641]? = some (.cells #[.int .i64 0, .int .i64 0] 80 (0, 0))) ∧ Aside0 (w'.heap[gb642]? = some (.cells #[.int .i64 x643000_1, .int .i64 x643001_1] 80 (0, 0))) ∧ Aside0 (w'.heap[gb643]? = some (.cells #[.int .i64 x644000_1, .int .i64 x644001_1, .bool x644002_1] 23 (0, 0))) ∧ Aside0 (Below w.heap.size w w'))
 case atStart => exact ⟨(wrap64 (t644 - 2)), (1), (0), (a0_0), (a0_1), (a0_2), rS, H', ⟨Nat.le_refl _⟩, ⟨bP BK639⟩, ⟨bP BK640⟩, ⟨bP BK641⟩, ⟨bP BK642⟩, ⟨bU BK643⟩, ⟨bZ HB⟩⟩
 case round =>
  clear H'
  try clear c1
  try clear p2
  try clear p6
  try clear c8
  try clear c9
  try clear c10
  try clear c12
  try clear c13
  try clear c16
  try clear c17
  try clear c18
  try clear c19
  try clear hcz11_0
  try clear hcz11_1
  try clear hcz14_0
  try clear hcz14_1
  try clear hcz14_2
  try clear hcz20_0
  try clear hcz20_1
  try clear hcz20_2
  try clear hfz11_0
  try clear hfz11_1
  try clear hfz14_0
  try clear hfz14_1
  try clear hfz14_2
  try clear hfz20_0
  try clear hfz20_1
  try clear hfz20_2
  obtain ⟨x7_1, x643000_1, x643001_1, x644000_1, x644001_1, x644002_1, rfl, HA, HK1, BK639, BK640, BK641, BK642, BK643, HB⟩ := hrel
  cases gk with
  | zero => exact absurd HA.out (by simp [impl_Miller.l0])
  | succ k1 =>
   have H := HA.out
   clear HA
   simp only [impl_Miller.l0] at H
   by_cases c21 : x7_1 ≥ 0
   ·rw [if_pos c21] at H
    have c21b0 : decide (0 ≤ x7_1) = true := decide_eq_true c21
    clear c21
    replace H := Option.bind_eq_some_iff.mp H
    obtain ⟨⟨t645, t646⟩, A220, H⟩ := H
    have A22 := Aside0.mk A220
    clear A220
    replace H := Option.bind_eq_some_iff.mp H
    obtain ⟨⟨t647, t648⟩, A230, H⟩ := H
    have A23 := Aside0.mk A230
    clear A230
    replace H := Option.bind_eq_some_iff.mp H
    obtain ⟨⟨t649, t650⟩, A240, H⟩ := H
    have A24 := Aside0.mk A240
    clear A240
    replace H := Option.bind_eq_some_iff.mp H
    obtain ⟨⟨t651, t652, t653⟩, A250, H⟩ := H
    have A25 := Aside0.mk A250
    clear A250
    obtain ⟨ji26, hji26⟩ : ∃ j_ : Int, (IntKind.u64.wrap (x7_1)) = j_ := ⟨_, rfl⟩
    replace H : (if 0 ≤ (ji26) then (if (Go.bits .and .i64 (shr .i64 1009 (ji26)) 1) = 1 then ((impl_PairLine.f k1 t651 t652 t653 a0_0 a0_1 a0_2 a1_0 a1_1 a1_2).bind fun bt654 => ((impl_TwoMul.f t649 t650 bt654.1 bt654.2).bind fun bt656 => ((impl_PointAdd.f k1 t651 t652 t653 a0_0 a0_1 a0_2).bind fun bt658 => (impl_Miller.l0 k1 (wrap64 (x7_1 - 1)) a0_0 a0_1 a0_2 a1_0 a1_1 a1_2 bt656.1 bt656.2 bt658.1 bt658.2.1 bt658.2.2)))) else (impl_Miller.l0 k1 (wrap64 (x7_1 - 1)) a0_0 a0_1 a0_2 a1_0 a1_1 a1_2 t649 t650 t651 t652 t653)) else (none)) = some (r1, r2) := by first | (rw [hji26] at H; exact H) | (simp only [hji26] at H ⊢; exact H)
    (try rw [hji26] at A22)
    (try rw [hji26] at A23)
    (try rw [hji26] at A24)
    (try rw [hji26] at A25)
    by_cases c27 : 0 ≤ (ji26)
    ·rw [if_pos c27] at H
     have c27b0 := eq_true c27
     have c27b1 : decide (0 ≤ (ji26)) = true := decide_eq_true c27
     clear c27
     obtain ⟨ji28, hji28⟩ : ∃ j_ : Int, (shr .i64 1009 (ji26)) = j_ := ⟨_, rfl⟩
     replace H : (if (Go.bits .and .i64 (ji28) 1) = 1 then ((impl_PairLine.f k1 t651 t652 t653 a0_0 a0_1 a0_2 a1_0 a1_1 a1_2).bind fun bt654 => ((impl_TwoMul.f t649 t650 bt654.1 bt654.2).bind fun bt656 => ((impl_PointAdd.f k1 t651 t652 t653 a0_0 a0_1 a0_2).bind fun bt658 => (impl_Miller.l0 k1 (wrap64 (x7_1 - 1)) a0_0 a0_1 a0_2 a1_0 a1_1 a1_2 bt656.1 bt656.2 bt658.1 bt658.2.1 bt658.2.2)))) else (impl_Miller.l0 k1 (wrap64 (x7_1 - 1)) a0_0 a0_1 a0_2 a1_0 a1_1 a1_2 t649 t650 t651 t652 t653)) = some (r1, r2) := by first | (rw [hji28] at H; exact H) | (simp only [hji28] at H ⊢; exact H)
     (try rw [hji28] at A22)
     (try rw [hji28] at A23)
     (try rw [hji28] at A24)
     (try rw [hji28] at A25)
     have hji28_ : (1009 / 2 ^ min (ji26).toNat 64) = ji28 := hji28
     have hji28z : (ji26) ≤ 64 → (1009 / 2 ^ (ji26).toNat) = ji28 := shr_small hji28
     have hji28t : ∀ m_ : Int, Int.tmod ji28 m_ = ji28 % m_ := fun m_ => Int.tmod_eq_emod_of_nonneg (by rw [← hji28_]; exact Int.ediv_nonneg (by decide) (Int.le_of_lt (Int.pow_pos (by decide))))
     by_cases c29 : (Go.bits .and .i64 (ji28) 1) = 1
     ·rw [if_pos c29] at H
      have c29b0 : ((Go.bits .and .i64 (ji28) 1) == 1) = true := beq_iff_eq.mpr c29
      have c29b1 : ((Go.bits .and .i64 (ji28) 1) != 1) = false := bne_eq_false_iff_eq.mpr c29
      clear c29
      replace H := Option.bind_eq_some_iff.mp H
      obtain ⟨⟨t654, t655⟩, A300, H⟩ := H
      have A30 := Aside0.mk A300
      clear A300
      replace H := Option.bind_eq_some_iff.mp H
      obtain ⟨⟨t656, t657⟩, A310, H⟩ := H
      have A31 := Aside0.mk A310
      clear A310
      replace H := Option.bind_eq_some_iff.mp H
      obtain ⟨⟨t658, t659, t660⟩, A320, H⟩ := H
      have A32 := Aside0.mk A320
      clear A320
      have H' := Aside0.mk H
      clear H
      try go_wp2
      replace BK639 := Aside0.mk (blk_drew BK639.out)
      replace BK640 := Aside0.mk (blk_drew BK640.out)
      replace BK641 := Aside0.mk (blk_drew BK641.out)
      replace BK642 := Aside0.mk (blk_drew BK642.out)
      replace BK643 := Aside0.mk (blk_drew BK643.out)
      replace HB := Aside0.mk (below_drew1 HB.out)
      refine start_ (n := 9) (S := fun w' => w'.cell? ⟨gb642, 0, none⟩ = some (.int .i64 x643000_1) ∧ w'.cell? ⟨gb642, 1, none⟩ = some (.int .i64 x643001_1) ∧ w'.cell? ⟨gb643, 0, none⟩ = some (.int .i64 x644000_1) ∧ w'.cell? ⟨gb643, 1, none⟩ = some (.int .i64 x644001_1) ∧ w'.cell? ⟨gb643, 2, none⟩ = some (.bool x644002_1) ∧ w'.cell? ⟨gb640, 0, none⟩ = some (.int .i64 a1_0) ∧ w'.cell? ⟨gb640, 1, none⟩ = some (.int .i64 a1_1) ∧ w'.cell? ⟨gb640, 2, none⟩ = some (.bool a1_2)) (ds := [8]) #[false, false, false, false, false, false, false, false, false] (by kernel_rfl) rfl rfl ⟨bc BK642 0, bc BK642 1, bc BK643 0, bc BK643 1, bc BK643 2, bc BK640 0, bc BK640 1, bc BK640 2⟩ (fun hHeld => ?_); refine with_tabW impl_Miller.tab6 impl_Miller.bits6 (fun HT_ HW_ => ?_)
      generalize wr.drew = w33 at BK639 BK640 BK641 BK642 BK643 HB hHeld ⊢
      refine tI8 0 (some 16) HT_.out HW_.out hHeld ?_
      refine tI8 1 (some 17) HT_.out HW_.out hHeld ?_
      refine tI8 3 (some 19) HT_.out HW_.out hHeld ?_
      refine tI8 4 (some 20) HT_.out HW_.out hHeld ?_
      refine tI8 5 (some 21) HT_.out HW_.out hHeld ?_
      refine oI 2 (some 18) HT_.out (fun K hK => ?_)
      refine gO Tryd.func109 #[.agg #[.int .i64 x643000_1, .int .i64 x643001_1], .agg #[.int .i64 x643000_1, .int .i64 x643001_1]] ?_
      with_reducible refine (impl_TwoMul.calls x643000_1 x643001_1 x643000_1 x643001_1 t645 t646 _ A22.out).mono ?_
      rintro e w34 ⟨rfl, hb⟩
      refine ⟨_, rfl, ?_⟩
      replace BK639 := bB BK639 hb
      replace BK640 := bB BK640 hb
      replace BK641 := bB BK641 hb
      replace BK642 := bB BK642 hb
      replace BK643 := bB BK643 hb
      replace HB := bS HB hb
      (try clear hb)
      refine hK.out _ _ ⟨bc BK642 0, bc BK642 1, bc BK643 0, bc BK643 1, bc BK643 2, bc BK640 0, bc BK640 1, bc BK640 2⟩ (fun hHeld => ?_)
      clear hK K
      refine nO (some 18) ?_
      refine oI 6 (some 22) HT_.out (fun K hK => ?_)
      refine gO Tryd.func133 #[.agg #[.int .i64 x644000_1, .int .i64 x644001_1, .bool x644002_1], .agg #[.int .i64 x644000_1, .int .i64 x644001_1, .bool x644002_1], .agg #[.int .i64 a1_0, .int .i64 a1_1, .bool a1_2]] ?_
      with_reducible refine (impl_PairLine.calls k1 x644000_1 x644001_1 x644002_1 x644000_1 x644001_1 x644002_1 a1_0 a1_1 a1_2 t647 t648 _ A23.out).mono ?_
      rintro e w35 ⟨rfl, hb⟩
      refine ⟨_, rfl, ?_⟩
      replace BK639 := bB BK639 hb
      replace BK640 := bB BK640 hb
      replace BK641 := bB BK641 hb
      replace BK642 := bB BK642 hb
      replace BK643 := bB BK643 hb
      replace HB := bS HB hb
      (try clear hb)
      refine hK.out _ _ ⟨bc BK642 0, bc BK642 1, bc BK643 0, bc BK643 1, bc BK643 2, bc BK640 0, bc BK640 1, bc BK640 2⟩ (fun hHeld => ?_)
      clear hK K
      refine nO (some 22) ?_
      refine oI 7 (some 23) HT_.out (fun K hK => ?_)
      refine gO Tryd.func109 #[.agg #[.int .i64 t645, .int .i64 t646], .agg #[.int .i64 t647, .int .i64 t648]] ?_
      with_reducible refine (impl_TwoMul.calls t645 t646 t647 t648 t649 t650 _ A24.out).mono ?_
      rintro e w36 ⟨rfl, hb⟩
      refine ⟨_, rfl, ?_⟩
      replace BK639 := bB BK639 hb
      replace BK640 := bB BK640 hb
      replace BK641 := bB BK641 hb
      replace BK642 := bB BK642 hb
      replace BK643 := bB BK643 hb
      replace HB := bS HB hb
      (try clear hb)
      refine hK.out _ _ ⟨bc BK642 0, bc BK642 1, bc BK643 0, bc BK643 1, bc BK643 2, bc BK640 0, bc BK640 1, bc BK640 2⟩ (fun hHeld => ?_)
      clear hK K
      refine nO (some 23) ?_
      refine last_ (i := 8) (N := none) #[true, true, true, true, true, true, true, true, true] rfl rfl (one_of HT_.out (by kernel_rfl)) (by decide) (fun K hK => ?_)
      have hs37 : w36.cell? ⟨gb642, 0, none⟩ = some (.int .i64 x643000_1) := bc BK642 0
      have hfs37 := blk_frozen BK642.out 0
      have hns37_0 := NB639_642.out
      have hns37_1 := NB640_642.out
      have hns37_2 := NB641_642.out
      have hns37_4 := NB643_642.out
      have hms37_0 := NB642_639.out
      have hms37_1 := NB642_640.out
      have hms37_2 := NB642_641.out
      have hms37_4 := NB642_643.out
      have hs38 : w36.cell? ⟨gb642, 1, none⟩ = some (.int .i64 x643001_1) := bc BK642 1
      have hfs38 := blk_frozen BK642.out 1
      have hns38_0 := NB639_642.out
      have hns38_1 := NB640_642.out
      have hns38_2 := NB641_642.out
      have hns38_4 := NB643_642.out
      have hms38_0 := NB642_639.out
      have hms38_1 := NB642_640.out
      have hms38_2 := NB642_641.out
      have hms38_4 := NB642_643.out
      refine skip_ (w1 := ?_) (by rfl) rfl ?_ ?_
      rotate_left
      ·go_simp
       rfl
      refine hK.out _ _ ?_
      clear hK K
      refine done_ (done_of HT_.out (by kernel_rfl)) ?_
      have hnb39 := NB643_639.out
      have hnc39 := NB639_643.out
      have hnb40 := NB643_640.out
      have hnc40 := NB640_643.out
      have hnb41 := NB643_641.out
      have hnc41 := NB641_643.out
      have hnb42 := NB643_642.out
      have hnc42 := NB642_643.out
      obtain ⟨hcz43_0, hcz43_1, hcz43_2, hfz43_0, hfz43_1, hfz43_2⟩ := bK3 (w := w36) BK643
      try go_wp2_with (first | ((with_reducible refine gate_callee (f := 59) rfl ?_); refine gL (some 26) Tryd.func59 #[.agg #[.int .i64 x644000_1, .int .i64 x644001_1, .bool x644002_1], .agg #[.int .i64 x644000_1, .int .i64 x644001_1, .bool x644002_1]] ?_; (with_reducible refine (impl_PointAdd.calls k1 x644000_1 x644001_1 x644002_1 x644000_1 x644001_1 x644002_1 t651 t652 t653 _ A25.out).mono ?_); rintro e w44 ⟨rfl, hb⟩; refine ⟨_, rfl, ?_⟩; replace BK639 := bB BK639 hb; replace BK640 := bB BK640 hb; replace BK641 := bB BK641 hb; replace BK642 := bV 80 #[.int .i64 t649, .int .i64 t650] BK642 hb; replace BK643 := bB BK643 hb; replace HB := bS HB hb; (try clear hb); obtain ⟨hcz45_0, hcz45_1, hcz45_2, hfz45_0, hfz45_1, hfz45_2⟩ := bK3 (w := w44) BK643))
      have n0_ : Aside0 ((((w44.setCell ⟨gb643, 0, none⟩ (.int .i64 t651)).setCell ⟨gb643, 1, none⟩ (.int .i64 t652)).setCell ⟨gb643, 2, none⟩ (.bool t653)).heap[gb639]? = some (.cells #[.int .i64 a0_0, .int .i64 a0_1, .bool a0_2] 23 (0, 0))) := ⟨bP BK639⟩
      have n1_ : Aside0 ((((w44.setCell ⟨gb643, 0, none⟩ (.int .i64 t651)).setCell ⟨gb643, 1, none⟩ (.int .i64 t652)).setCell ⟨gb643, 2, none⟩ (.bool t653)).heap[gb640]? = some (.cells #[.int .i64 a1_0, .int .i64 a1_1, .bool a1_2] 23 (0, 0))) := ⟨bP BK640⟩
      have n2_ : Aside0 ((((w44.setCell ⟨gb643, 0, none⟩ (.int .i64 t651)).setCell ⟨gb643, 1, none⟩ (.int .i64 t652)).setCell ⟨gb643, 2, none⟩ (.bool t653)).heap[gb641]? = some (.cells #[.int .i64 0, .int .i64 0] 80 (0, 0))) := ⟨bP BK641⟩
      have n3_ : Aside0 ((((w44.setCell ⟨gb643, 0, none⟩ (.int .i64 t651)).setCell ⟨gb643, 1, none⟩ (.int .i64 t652)).setCell ⟨gb643, 2, none⟩ (.bool t653)).heap[gb642]? = some (.cells #[.int .i64 t649, .int .i64 t650] 80 (0, 0))) := ⟨bP BK642⟩
      have n4_ : Aside0 ((((w44.setCell ⟨gb643, 0, none⟩ (.int .i64 t651)).setCell ⟨gb643, 1, none⟩ (.int .i64 t652)).setCell ⟨gb643, 2, none⟩ (.bool t653)).heap[gb643]? = some (.cells #[.int .i64 t651, .int .i64 t652, .bool t653] 23 (0, 0))) := ⟨bU BK643⟩
      have n5_ : Aside0 (Below w.heap.size w (((w44.setCell ⟨gb643, 0, none⟩ (.int .i64 t651)).setCell ⟨gb643, 1, none⟩ (.int .i64 t652)).setCell ⟨gb643, 2, none⟩ (.bool t653))) := ⟨bZ HB⟩
      (try clear BK639)
      (try clear BK640)
      (try clear BK641)
      (try clear BK642)
      (try clear BK643)
      (try clear HB)
      generalize (((w44.setCell ⟨gb643, 0, none⟩ (.int .i64 t651)).setCell ⟨gb643, 1, none⟩ (.int .i64 t652)).setCell ⟨gb643, 2, none⟩ (.bool t653)) = w46 at n0_ n1_ n2_ n3_ n4_ n5_ ⊢
      have BK639 := n0_
      have BK640 := n1_
      have BK641 := n2_
      have BK642 := n3_
      have BK643 := n4_
      have HB := n5_
      clear n0_ n1_ n2_ n3_ n4_ n5_
      replace BK639 := Aside0.mk (blk_drew BK639.out)
      replace BK640 := Aside0.mk (blk_drew BK640.out)
      replace BK641 := Aside0.mk (blk_drew BK641.out)
      replace BK642 := Aside0.mk (blk_drew BK642.out)
      replace BK643 := Aside0.mk (blk_drew BK643.out)
      replace HB := Aside0.mk (below_drew1 HB.out)
      refine start_ (n := 7) (S := fun w' => w'.cell? ⟨gb642, 0, none⟩ = some (.int .i64 t649) ∧ w'.cell? ⟨gb642, 1, none⟩ = some (.int .i64 t650) ∧ w'.cell? ⟨gb643, 0, none⟩ = some (.int .i64 t651) ∧ w'.cell? ⟨gb643, 1, none⟩ = some (.int .i64 t652) ∧ w'.cell? ⟨gb643, 2, none⟩ = some (.bool t653) ∧ w'.cell? ⟨gb639, 0, none⟩ = some (.int .i64 a0_0) ∧ w'.cell? ⟨gb639, 1, none⟩ = some (.int .i64 a0_1) ∧ w'.cell? ⟨gb639, 2, none⟩ = some (.bool a0_2) ∧ w'.cell? ⟨gb640, 0, none⟩ = some (.int .i64 a1_0) ∧ w'.cell? ⟨gb640, 1, none⟩ = some (.int .i64 a1_1) ∧ w'.cell? ⟨gb640, 2, none⟩ = some (.bool a1_2)) (ds := [6]) #[false, false, false, false, false, false, false] (by kernel_rfl) rfl rfl ⟨bc BK642 0, bc BK642 1, bc BK643 0, bc BK643 1, bc BK643 2, bc BK639 0, bc BK639 1, bc BK639 2, bc BK640 0, bc BK640 1, bc BK640 2⟩ (fun hHeld => ?_)
      generalize w46.drew = w47 at BK639 BK640 BK641 BK642 BK643 HB hHeld ⊢
      refine take_ (i := 0) (N := some 32) (v := ?_) (a' := ?_) #[true, false, false, false, false, false, false] rfl rfl (by kernel_rfl) (fun _ _ _ h => h) (Or.inl ⟨by rfl, ?_⟩) hHeld ?_ ?_
      rotate_left
      ·rintro w' ⟨s0, s1, s2, s3, s4, s5, s6, s7, s8, s9, s10⟩
       go_simp
       with_reducible rfl
      rotate_left
      ·simp only [Act.put, List.setIfInBounds_toArray, List.set_cons_zero, List.set_cons_succ, i64_w, i32_w]
       rfl
      refine take_ (i := 1) (N := some 33) (v := ?_) (a' := ?_) #[true, true, false, false, false, false, false] rfl rfl (by kernel_rfl) (fun _ _ _ h => h) (Or.inl ⟨by rfl, ?_⟩) hHeld ?_ ?_
      rotate_left
      ·rintro w' ⟨s0, s1, s2, s3, s4, s5, s6, s7, s8, s9, s10⟩
       go_simp
       with_reducible rfl
      rotate_left
      ·simp only [Act.put, List.setIfInBounds_toArray, List.set_cons_zero, List.set_cons_succ, i64_w, i32_w]
       rfl
      refine take_ (i := 2) (N := some 34) (v := ?_) (a' := ?_) #[true, true, true, false, false, false, false] rfl rfl (by kernel_rfl) (fun _ _ _ h => h) (Or.inl ⟨by rfl, ?_⟩) hHeld ?_ ?_
      rotate_left
      ·rintro w' ⟨s0, s1, s2, s3, s4, s5, s6, s7, s8, s9, s10⟩
       go_simp
       with_reducible rfl
      rotate_left
      ·simp only [Act.put, List.setIfInBounds_toArray, List.set_cons_zero, List.set_cons_succ, i64_w, i32_w]
       rfl
      refine take_ (i := 3) (N := some 35) (v := ?_) (a' := ?_) #[true, true, true, true, false, false, false] rfl rfl (by kernel_rfl) (fun _ _ _ h => h) (Or.inl ⟨by rfl, ?_⟩) hHeld ?_ ?_
      rotate_left
      ·rintro w' ⟨s0, s1, s2, s3, s4, s5, s6, s7, s8, s9, s10⟩
       go_simp
       with_reducible rfl
      rotate_left
      ·simp only [Act.put, List.setIfInBounds_toArray, List.set_cons_zero, List.set_cons_succ, i64_w, i32_w]
       rfl
      refine one_ (i := 4) (N := some 36) #[true, true, true, true, true, false, false] rfl rfl (by kernel_rfl) (by decide) (fun K hK => ?_)
      refine gO Tryd.func133 #[.agg #[.int .i64 t651, .int .i64 t652, .bool t653], .agg #[.int .i64 a0_0, .int .i64 a0_1, .bool a0_2], .agg #[.int .i64 a1_0, .int .i64 a1_1, .bool a1_2]] ?_
      with_reducible refine (impl_PairLine.calls k1 t651 t652 t653 a0_0 a0_1 a0_2 a1_0 a1_1 a1_2 t654 t655 _ A30.out).mono ?_
      rintro e w48 ⟨rfl, hb⟩
      refine ⟨_, rfl, ?_⟩
      replace BK639 := bB BK639 hb
      replace BK640 := bB BK640 hb
      replace BK641 := bB BK641 hb
      replace BK642 := bB BK642 hb
      replace BK643 := bB BK643 hb
      replace HB := bS HB hb
      (try clear hb)
      refine hK.out _ _ ⟨bc BK642 0, bc BK642 1, bc BK643 0, bc BK643 1, bc BK643 2, bc BK639 0, bc BK639 1, bc BK639 2, bc BK640 0, bc BK640 1, bc BK640 2⟩ (fun hHeld => ?_)
      clear hK K
      refine nO (some 36) ?_
      refine one_ (i := 5) (N := some 37) #[true, true, true, true, true, true, false] rfl rfl (by kernel_rfl) (by decide) (fun K hK => ?_)
      refine gO Tryd.func109 #[.agg #[.int .i64 t649, .int .i64 t650], .agg #[.int .i64 t654, .int .i64 t655]] ?_
      with_reducible refine (impl_TwoMul.calls t649 t650 t654 t655 t656 t657 _ A31.out).mono ?_
      rintro e w49 ⟨rfl, hb⟩
      refine ⟨_, rfl, ?_⟩
      replace BK639 := bB BK639 hb
      replace BK640 := bB BK640 hb
      replace BK641 := bB BK641 hb
      replace BK642 := bB BK642 hb
      replace BK643 := bB BK643 hb
      replace HB := bS HB hb
      (try clear hb)
      refine hK.out _ _ ⟨bc BK642 0, bc BK642 1, bc BK643 0, bc BK643 1, bc BK643 2, bc BK639 0, bc BK639 1, bc BK639 2, bc BK640 0, bc BK640 1, bc BK640 2⟩ (fun hHeld => ?_)
      clear hK K
      refine nO (some 37) ?_
      refine last_ (i := 6) (N := none) #[true, true, true, true, true, true, true] rfl rfl (by kernel_rfl) (by decide) (fun K hK => ?_)
      have hs50 : w49.cell? ⟨gb642, 0, none⟩ = some (.int .i64 t649) := bc BK642 0
      have hfs50 := blk_frozen BK642.out 0
      have hns50_0 := NB639_642.out
      have hns50_1 := NB640_642.out
      have hns50_2 := NB641_642.out
      have hns50_4 := NB643_642.out
      have hms50_0 := NB642_639.out
      have hms50_1 := NB642_640.out
      have hms50_2 := NB642_641.out
      have hms50_4 := NB642_643.out
      have hs51 : w49.cell? ⟨gb642, 1, none⟩ = some (.int .i64 t650) := bc BK642 1
      have hfs51 := blk_frozen BK642.out 1
      have hns51_0 := NB639_642.out
      have hns51_1 := NB640_642.out
      have hns51_2 := NB641_642.out
      have hns51_4 := NB643_642.out
      have hms51_0 := NB642_639.out
      have hms51_1 := NB642_640.out
      have hms51_2 := NB642_641.out
      have hms51_4 := NB642_643.out
      refine skip_ (w1 := ?_) (by rfl) rfl ?_ ?_
      rotate_left
      ·go_simp
       rfl
      refine hK.out _ _ ?_
      clear hK K
      refine done_ (by kernel_rfl) ?_
      obtain ⟨hcz52_0, hcz52_1, hcz52_2, hfz52_0, hfz52_1, hfz52_2⟩ := bK3 (w := w49) BK643
      have hnb53 := NB639_640.out
      have hnc53 := NB640_639.out
      have hnb54 := NB639_641.out
      have hnc54 := NB641_639.out
      have hnb55 := NB639_642.out
      have hnc55 := NB642_639.out
      obtain ⟨hcz56_0, hcz56_1, hcz56_2, hfz56_0, hfz56_1, hfz56_2⟩ := bK3 (w := w49) BK639
      try go_wp2_with (first | ((with_reducible refine gate_callee (f := 59) rfl ?_); refine gL (some 40) Tryd.func59 #[.agg #[.int .i64 t651, .int .i64 t652, .bool t653], .agg #[.int .i64 a0_0, .int .i64 a0_1, .bool a0_2]] ?_; (with_reducible refine (impl_PointAdd.calls k1 t651 t652 t653 a0_0 a0_1 a0_2 t658 t659 t660 _ A32.out).mono ?_); rintro e w57 ⟨rfl, hb⟩; refine ⟨_, rfl, ?_⟩; replace BK639 := bB BK639 hb; replace BK640 := bB BK640 hb; replace BK641 := bB BK641 hb; replace BK642 := bV 80 #[.int .i64 t656, .int .i64 t657] BK642 hb; replace BK643 := bB BK643 hb; replace HB := bS HB hb; (try clear hb); obtain ⟨hcz58_0, hcz58_1, hcz58_2, hfz58_0, hfz58_1, hfz58_2⟩ := bK3 (w := w57) BK643))
      go_roundg k1
      case measure => have := HK1.out; omega
      case rel => exact ⟨(wrap64 (x7_1 - 1)), (t656), (t657), (t658), (t659), (t660), rS, H', ⟨by have := HK1.out; omega⟩, ⟨bP BK639⟩, ⟨bP BK640⟩, ⟨bP BK641⟩, ⟨bP BK642⟩, ⟨bU BK643⟩, ⟨bZ HB⟩⟩
     ·rw [if_neg c29] at H
      have c29b0 : ((Go.bits .and .i64 (ji28) 1) == 1) = false := beq_eq_false_iff_ne.mpr c29
      have c29b1 : ((Go.bits .and .i64 (ji28) 1) != 1) = true := bne_iff_ne.mpr c29
      have H' := Aside0.mk H
      clear H
      try go_wp2
      replace BK639 := Aside0.mk (blk_drew BK639.out)
      replace BK640 := Aside0.mk (blk_drew BK640.out)
      replace BK641 := Aside0.mk (blk_drew BK641.out)
      replace BK642 := Aside0.mk (blk_drew BK642.out)
      replace BK643 := Aside0.mk (blk_drew BK643.out)
      replace HB := Aside0.mk (below_drew1 HB.out)
      refine start_ (n := 9) (S := fun w' => w'.cell? ⟨gb642, 0, none⟩ = some (.int .i64 x643000_1) ∧ w'.cell? ⟨gb642, 1, none⟩ = some (.int .i64 x643001_1) ∧ w'.cell? ⟨gb643, 0, none⟩ = some (.int .i64 x644000_1) ∧ w'.cell? ⟨gb643, 1, none⟩ = some (.int .i64 x644001_1) ∧ w'.cell? ⟨gb643, 2, none⟩ = some (.bool x644002_1) ∧ w'.cell? ⟨gb640, 0, none⟩ = some (.int .i64 a1_0) ∧ w'.cell? ⟨gb640, 1, none⟩ = some (.int .i64 a1_1) ∧ w'.cell? ⟨gb640, 2, none⟩ = some (.bool a1_2)) (ds := [8]) #[false, false, false, false, false, false, false, false, false] (by kernel_rfl) rfl rfl ⟨bc BK642 0, bc BK642 1, bc BK643 0, bc BK643 1, bc BK643 2, bc BK640 0, bc BK640 1, bc BK640 2⟩ (fun hHeld => ?_); refine with_tabW impl_Miller.tab6 impl_Miller.bits6 (fun HT_ HW_ => ?_)
      generalize wr.drew = w59 at BK639 BK640 BK641 BK642 BK643 HB hHeld ⊢
      refine tI8 0 (some 16) HT_.out HW_.out hHeld ?_
      refine tI8 1 (some 17) HT_.out HW_.out hHeld ?_
      refine tI8 3 (some 19) HT_.out HW_.out hHeld ?_
      refine tI8 4 (some 20) HT_.out HW_.out hHeld ?_
      refine tI8 5 (some 21) HT_.out HW_.out hHeld ?_
      refine oI 2 (some 18) HT_.out (fun K hK => ?_)
      refine gO Tryd.func109 #[.agg #[.int .i64 x643000_1, .int .i64 x643001_1], .agg #[.int .i64 x643000_1, .int .i64 x643001_1]] ?_
      with_reducible refine (impl_TwoMul.calls x643000_1 x643001_1 x643000_1 x643001_1 t645 t646 _ A22.out).mono ?_
      rintro e w60 ⟨rfl, hb⟩
      refine ⟨_, rfl, ?_⟩
      replace BK639 := bB BK639 hb
      replace BK640 := bB BK640 hb
      replace BK641 := bB BK641 hb
      replace BK642 := bB BK642 hb
      replace BK643 := bB BK643 hb
      replace HB := bS HB hb
      (try clear hb)
      refine hK.out _ _ ⟨bc BK642 0, bc BK642 1, bc BK643 0, bc BK643 1, bc BK643 2, bc BK640 0, bc BK640 1, bc BK640 2⟩ (fun hHeld => ?_)
      clear hK K
      refine nO (some 18) ?_
      refine oI 6 (some 22) HT_.out (fun K hK => ?_)
      refine gO Tryd.func133 #[.agg #[.int .i64 x644000_1, .int .i64 x644001_1, .bool x644002_1], .agg #[.int .i64 x644000_1, .int .i64 x644001_1, .bool x644002_1], .agg #[.int .i64 a1_0, .int .i64 a1_1, .bool a1_2]] ?_
      with_reducible refine (impl_PairLine.calls k1 x644000_1 x644001_1 x644002_1 x644000_1 x644001_1 x644002_1 a1_0 a1_1 a1_2 t647 t648 _ A23.out).mono ?_
      rintro e w61 ⟨rfl, hb⟩
      refine ⟨_, rfl, ?_⟩
      replace BK639 := bB BK639 hb
      replace BK640 := bB BK640 hb
      replace BK641 := bB BK641 hb
      replace BK642 := bB BK642 hb
      replace BK643 := bB BK643 hb
      replace HB := bS HB hb
      (try clear hb)
      refine hK.out _ _ ⟨bc BK642 0, bc BK642 1, bc BK643 0, bc BK643 1, bc BK643 2, bc BK640 0, bc BK640 1, bc BK640 2⟩ (fun hHeld => ?_)
      clear hK K
      refine nO (some 22) ?_
      refine oI 7 (some 23) HT_.out (fun K hK => ?_)
      refine gO Tryd.func109 #[.agg #[.int .i64 t645, .int .i64 t646], .agg #[.int .i64 t647, .int .i64 t648]] ?_
      with_reducible refine (impl_TwoMul.calls t645 t646 t647 t648 t649 t650 _ A24.out).mono ?_
      rintro e w62 ⟨rfl, hb⟩
      refine ⟨_, rfl, ?_⟩
      replace BK639 := bB BK639 hb
      replace BK640 := bB BK640 hb
      replace BK641 := bB BK641 hb
      replace BK642 := bB BK642 hb
      replace BK643 := bB BK643 hb
      replace HB := bS HB hb
      (try clear hb)
      refine hK.out _ _ ⟨bc BK642 0, bc BK642 1, bc BK643 0, bc BK643 1, bc BK643 2, bc BK640 0, bc BK640 1, bc BK640 2⟩ (fun hHeld => ?_)
      clear hK K
      refine nO (some 23) ?_
      refine last_ (i := 8) (N := none) #[true, true, true, true, true, true, true, true, true] rfl rfl (one_of HT_.out (by kernel_rfl)) (by decide) (fun K hK => ?_)
      have hs63 : w62.cell? ⟨gb642, 0, none⟩ = some (.int .i64 x643000_1) := bc BK642 0
      have hfs63 := blk_frozen BK642.out 0
      have hns63_0 := NB639_642.out
      have hns63_1 := NB640_642.out
      have hns63_2 := NB641_642.out
      have hns63_4 := NB643_642.out
      have hms63_0 := NB642_639.out
      have hms63_1 := NB642_640.out
      have hms63_2 := NB642_641.out
      have hms63_4 := NB642_643.out
      have hs64 : w62.cell? ⟨gb642, 1, none⟩ = some (.int .i64 x643001_1) := bc BK642 1
      have hfs64 := blk_frozen BK642.out 1
      have hns64_0 := NB639_642.out
      have hns64_1 := NB640_642.out
      have hns64_2 := NB641_642.out
      have hns64_4 := NB643_642.out
      have hms64_0 := NB642_639.out
      have hms64_1 := NB642_640.out
      have hms64_2 := NB642_641.out
      have hms64_4 := NB642_643.out
      refine skip_ (w1 := ?_) (by rfl) rfl ?_ ?_
      rotate_left
      ·go_simp
       rfl
      refine hK.out _ _ ?_
      clear hK K
      refine done_ (done_of HT_.out (by kernel_rfl)) ?_
      have hnb65 := NB643_639.out
      have hnc65 := NB639_643.out
      have hnb66 := NB643_640.out
      have hnc66 := NB640_643.out
      have hnb67 := NB643_641.out
      have hnc67 := NB641_643.out
      have hnb68 := NB643_642.out
      have hnc68 := NB642_643.out
      obtain ⟨hcz69_0, hcz69_1, hcz69_2, hfz69_0, hfz69_1, hfz69_2⟩ := bK3 (w := w62) BK643
      try go_wp2_with (first | ((with_reducible refine gate_callee (f := 59) rfl ?_); refine gL (some 26) Tryd.func59 #[.agg #[.int .i64 x644000_1, .int .i64 x644001_1, .bool x644002_1], .agg #[.int .i64 x644000_1, .int .i64 x644001_1, .bool x644002_1]] ?_; (with_reducible refine (impl_PointAdd.calls k1 x644000_1 x644001_1 x644002_1 x644000_1 x644001_1 x644002_1 t651 t652 t653 _ A25.out).mono ?_); rintro e w70 ⟨rfl, hb⟩; refine ⟨_, rfl, ?_⟩; replace BK639 := bB BK639 hb; replace BK640 := bB BK640 hb; replace BK641 := bB BK641 hb; replace BK642 := bV 80 #[.int .i64 t649, .int .i64 t650] BK642 hb; replace BK643 := bB BK643 hb; replace HB := bS HB hb; (try clear hb); obtain ⟨hcz71_0, hcz71_1, hcz71_2, hfz71_0, hfz71_1, hfz71_2⟩ := bK3 (w := w70) BK643))
      go_roundg k1
      case measure => have := HK1.out; omega
      case rel => exact ⟨(wrap64 (x7_1 - 1)), (t649), (t650), (t651), (t652), (t653), rS, H', ⟨by have := HK1.out; omega⟩, ⟨bP BK639⟩, ⟨bP BK640⟩, ⟨bP BK641⟩, ⟨bP BK642⟩, ⟨bU BK643⟩, ⟨bZ HB⟩⟩
    ·rw [if_neg c27] at H
     exact absurd H (by simp)
   ·rw [if_neg c21] at H
    have c21b0 : decide (0 ≤ x7_1) = false := decide_eq_false c21
    clear c21
    simp only [Option.some.injEq, Prod.mk.injEq] at H
    obtain ⟨rfl, rfl⟩ := H
    have hnb72 := NB642_639.out
    have hnc72 := NB639_642.out
    have hnb73 := NB642_640.out
    have hnc73 := NB640_642.out
    have hnb74 := NB642_641.out
    have hnc74 := NB641_642.out
    have hnb75 := NB642_643.out
    have hnc75 := NB643_642.out
    obtain ⟨hcz76_0, hcz76_1, hfz76_0, hfz76_1⟩ := bK2 (w := wr) BK642
    have hnb77 := NB641_639.out
    have hnc77 := NB639_641.out
    have hnb78 := NB641_640.out
    have hnc78 := NB640_641.out
    have hnb79 := NB641_643.out
    have hnc79 := NB643_641.out
    obtain ⟨hcz80_0, hcz80_1, hfz80_0, hfz80_1⟩ := bK2 (w := wr) BK641
    go_wp2
    refine rC gb641 80 #[.int .i64 x643000_1, .int .i64 x643001_1] (bU BK641) Tryd.underlying80 ?_
    exact ⟨rR, bZ HB⟩
/-! ### impl_TwoPow: function 108 -/
def impl_TwoPow.l0 : Nat → Int → Int → Int → Int → Int → Option (Int × Int)
 | 0, _, _, _, _, _ => none
 | k + 1, x1, x662000, x662001, x664000, x664001 => if x1 > 0 then (if (Int.tmod x1 2) = 1 then ((impl_TwoMul.f x664000 x664001 x662000 x662001).bind fun bt664 => ((impl_TwoMul.f x662000 x662001 x662000 x662001).bind fun bt666 => (impl_TwoPow.l0 k (wrap64 (Int.tdiv x1 2)) bt666.1 bt666.2 bt664.1 bt664.2))) else ((impl_TwoMul.f x662000 x662001 x662000 x662001).bind fun bt668 => (impl_TwoPow.l0 k (wrap64 (Int.tdiv x1 2)) bt668.1 bt668.2 x664000 x664001))) else (some (x664000, x664001))
def impl_TwoPow.f (k : Nat) (a0_0 : Int) (a0_1 : Int) (a1 : Int) : Option (Int × Int) := if a1 < 0 then (some (0, 0)) else (impl_TwoPow.l0 k a1 a0_0 a0_1 1 0)
theorem impl_TwoPow.mono_l : ∀ k, (∀ y0 y1 y2 y3 y4, LeO (impl_TwoPow.l0 k y0 y1 y2 y3 y4) (impl_TwoPow.l0 (k + 1) y0 y1 y2 y3 y4))
 | 0 => fun _ _ _ _ _ r h => by simp [impl_TwoPow.l0] at h
 | k + 1 => by
  have ih0 := impl_TwoPow.mono_l k
  ·intro y0 y1 y2 y3 y4
   unfold impl_TwoPow.l0
   repeat' first
   | (with_reducible exact ih0 _ _ _ _ _)
   | (with_reducible exact LeO.refl _)
   | (with_reducible exact LeO.none _)
   | (with_reducible refine LeO.ite ?_ ?_)
   | (with_reducible refine LeO.bind ?_ (fun _ => ?_))
   | exact ih0 _ _ _ _ _
   | exact LeO.none _
   | refine LeO.ite ?_ ?_
   | refine LeO.bind ?_ (fun _ => ?_)
theorem impl_TwoPow.mono : ∀ a0 a1 a2 k, LeO (impl_TwoPow.f k a0 a1 a2) (impl_TwoPow.f (k + 1) a0 a1 a2) := by
 intro a0 a1 a2 k
 have ih0 := impl_TwoPow.mono_l k
 unfold impl_TwoPow.f
 repeat' first
   | (with_reducible exact ih0 _ _ _ _ _)
   | (with_reducible exact LeO.refl _)
   | (with_reducible exact LeO.none _)
   | (with_reducible refine LeO.ite ?_ ?_)
   | (with_reducible refine LeO.bind ?_ (fun _ => ?_))
   | exact ih0 _ _ _ _ _
   | exact LeO.none _
   | refine LeO.ite ?_ ?_
   | refine LeO.bind ?_ (fun _ => ?_)
set_option maxHeartbeats 8000000 in
set_option maxRecDepth 100000 in
theorem impl_TwoPow.calls (k : Nat) (a0_0 : Int) (a0_1 : Int) (a1 : Int) (r1 : Int) (r2 : Int) (w : World) (h : impl_TwoPow.f k a0_0 a0_1 a1 = some (r1, r2)) :
  Calls Tryd.prog 108 #[.agg #[.int .i64 a0_0, .int .i64 a0_1], .int .i64 a1] w fun e w' => e = .returned (.agg #[.int .i64 r1, .int .i64 r2]) ∧ Below w.heap.size w w' := by
 have hu80 := Tryd.underlying80
 have HB := Aside0.mk (Below.refl w.heap.size w)
 have H : (if a1 < 0 then (some (0, 0)) else (impl_TwoPow.l0 k a1 a0_0 a0_1 1 0)) = some (r1, r2) := h
 clear h
 by_cases c3 : a1 < 0
 ·rw [if_pos c3] at H
  have c3b0 : decide (a1 < 0) = true := decide_eq_true c3
  clear c3
  simp only [Option.some.injEq, Prod.mk.injEq] at H
  obtain ⟨rfl, rfl⟩ := H
  go_enter Tryd.func108, Tryd.ntmps108
  go_wp2_with (first | ((with_reducible refine gate_dst (N := 2) rfl ?_); refine bE 2 #[.int .i64 a0_0, .int .i64 a0_1] 80 ?_; intro gb661 hg w4 hbox hb; have BK661 := Aside0.mk (hbox); have GW661 := bG HB hg; have GE661 := bG HB hg; replace HB := bS HB hb; clear hb hbox hg) | ((with_reducible refine gate_dst (N := 4) rfl ?_); refine bE 4 #[.int .i64 0, .int .i64 0] 80 ?_; intro gb662 hg w5 hbox hb; have BK662 := Aside0.mk (hbox); have GW662 := bG HB hg; have GE662 := bG HB hg; replace HB := bS HB hb; have NB661_662 := bL BK661 hg; have NB662_661 := bR BK661 hg; replace BK661 := bB BK661 hb; clear hb hbox hg; have hnb6 := NB662_661.out; have hnc6 := NB661_662.out; obtain ⟨hcz7_0, hcz7_1, hfz7_0, hfz7_1⟩ := bK2 (w := w5) BK662))
  refine rC gb662 80 #[.int .i64 0, .int .i64 0] (bU BK662) Tryd.underlying80 ?_
  exact ⟨rR, bZ HB⟩
 ·rw [if_neg c3] at H
  have c3b0 : decide (a1 < 0) = false := decide_eq_false c3
  clear c3
  have H' := Aside0.mk H
  clear H
  go_enter Tryd.func108, Tryd.ntmps108
  go_wp2_with (first | ((with_reducible refine gate_dst (N := 2) rfl ?_); refine bE 2 #[.int .i64 a0_0, .int .i64 a0_1] 80 ?_; intro gb661 hg w8 hbox hb; have BK661 := Aside0.mk (hbox); have GW661 := bG HB hg; have GE661 := bG HB hg; replace HB := bS HB hb; clear hb hbox hg) | ((with_reducible refine gate_dst (N := 4) rfl ?_); refine bE 4 #[.int .i64 0, .int .i64 0] 80 ?_; intro gb662 hg w9 hbox hb; have BK662 := Aside0.mk (hbox); have GW662 := bG HB hg; have GE662 := bG HB hg; replace HB := bS HB hb; have NB661_662 := bL BK661 hg; have NB662_661 := bR BK661 hg; replace BK661 := bB BK661 hb; clear hb hbox hg) | ((with_reducible refine gate_dst (N := 5) rfl ?_); refine bE 5 #[.int .i64 0, .int .i64 0] 80 ?_; intro gb663 hg w10 hbox hb; have BK663 := Aside0.mk (hbox); have GW663 := bG HB hg; have GE663 := bG HB hg; replace HB := bS HB hb; have NB661_663 := bL BK661 hg; have NB663_661 := bR BK661 hg; replace BK661 := bB BK661 hb; have NB662_663 := bL BK662 hg; have NB663_662 := bR BK662 hg; replace BK662 := bB BK662 hb; clear hb hbox hg; have hnb11 := NB663_661.out; have hnc11 := NB661_663.out; have hnb12 := NB663_662.out; have hnc12 := NB662_663.out; obtain ⟨hcz13_0, hcz13_1, hfz13_0, hfz13_1⟩ := bK2 (w := w10) BK663))
  go_loopg [1] k (fun kq v1 w' => ∃ (x1_1 : Int) (x662000_1 : Int) (x662001_1 : Int) (x664000_1 : Int) (x664001_1 : Int), v1 = .int .i64 x1_1 ∧ Aside0 (impl_TwoPow.l0 kq x1_1 x662000_1 x662001_1 x664000_1 x664001_1 = some (r1, r2)) ∧ Aside0 (kq ≤ k) ∧ Aside0 (w'.heap[gb661]? = some (.cells #[.int .i64 x662000_1, .int .i64 x662001_1] 80 (0, 0))) ∧ Aside0 (w'.heap[gb662]? = some (.cells #[.int .i64 0, .int .i64 0] 80 (0, 0))) ∧ Aside0 (w'.heap[gb663]? = some (.cells #[.int .i64 x664000_1, .int .i64 x664001_1] 80 (0, 0))) ∧ Aside0 (Below w.heap.size w w'))
  case atStart => exact ⟨(a1), (a0_0), (a0_1), (1), (0), rS, H', ⟨Nat.le_refl _⟩, ⟨bP BK661⟩, ⟨bP BK662⟩, ⟨bU BK663⟩, ⟨bZ HB⟩⟩
  case round =>
   clear H'
   try clear c1
   try clear p2
   try clear c3
   try clear c3b0
   try clear c6
   try clear c10
   try clear c11
   try clear c12
   try clear hcz13_0
   try clear hcz13_1
   try clear hcz7_0
   try clear hcz7_1
   try clear hfz13_0
   try clear hfz13_1
   try clear hfz7_0
   try clear hfz7_1
   obtain ⟨x1_1, x662000_1, x662001_1, x664000_1, x664001_1, rfl, HA, HK1, BK661, BK662, BK663, HB⟩ := hrel
   cases gk with
   | zero => exact absurd HA.out (by simp [impl_TwoPow.l0])
   | succ k1 =>
    have H := HA.out
    clear HA
    simp only [impl_TwoPow.l0] at H
    by_cases c14 : x1_1 > 0
    ·rw [if_pos c14] at H
     have c14b0 : decide (0 < x1_1) = true := decide_eq_true c14
     clear c14
     by_cases c15 : (Int.tmod x1_1 2) = 1
     ·rw [if_pos c15] at H
      have c15b0 : ((Int.tmod x1_1 2) == 1) = true := beq_iff_eq.mpr c15
      have c15b1 : ((Int.tmod x1_1 2) != 1) = false := bne_eq_false_iff_eq.mpr c15
      clear c15
      replace H := Option.bind_eq_some_iff.mp H
      obtain ⟨⟨t664, t665⟩, A160, H⟩ := H
      have A16 := Aside0.mk A160
      clear A160
      replace H := Option.bind_eq_some_iff.mp H
      obtain ⟨⟨t666, t667⟩, A170, H⟩ := H
      have A17 := Aside0.mk A170
      clear A170
      have H' := Aside0.mk H
      clear H
      have hnb18 := NB663_661.out
      have hnc18 := NB661_663.out
      have hnb19 := NB663_662.out
      have hnc19 := NB662_663.out
      obtain ⟨hcz20_0, hcz20_1, hfz20_0, hfz20_1⟩ := bK2 (w := wr) BK663
      have hnb21 := NB661_662.out
      have hnc21 := NB662_661.out
      obtain ⟨hcz22_0, hcz22_1, hfz22_0, hfz22_1⟩ := bK2 (w := wr) BK661
      go_wp2_with (first | ((with_reducible refine gate_callee (f := 109) rfl ?_); refine gL (some 17) Tryd.func109 #[.agg #[.int .i64 x664000_1, .int .i64 x664001_1], .agg #[.int .i64 x662000_1, .int .i64 x662001_1]] ?_; (with_reducible refine (impl_TwoMul.calls x664000_1 x664001_1 x662000_1 x662001_1 t664 t665 _ A16.out).mono ?_); rintro e w23 ⟨rfl, hb⟩; refine ⟨_, rfl, ?_⟩; replace BK661 := bB BK661 hb; replace BK662 := bB BK662 hb; replace BK663 := bB BK663 hb; replace HB := bS HB hb; (try clear hb); obtain ⟨hcz24_0, hcz24_1, hfz24_0, hfz24_1⟩ := bK2 (w := w23) BK663; obtain ⟨hcz25_0, hcz25_1, hfz25_0, hfz25_1⟩ := bK2 (w := w23) BK661) | ((with_reducible refine gate_callee (f := 109) rfl ?_); refine gL (some 20) Tryd.func109 #[.agg #[.int .i64 x662000_1, .int .i64 x662001_1], .agg #[.int .i64 x662000_1, .int .i64 x662001_1]] ?_; (with_reducible refine (impl_TwoMul.calls x662000_1 x662001_1 x662000_1 x662001_1 t666 t667 _ A17.out).mono ?_); rintro e w26 ⟨rfl, hb⟩; refine ⟨_, rfl, ?_⟩; replace BK661 := bB BK661 hb; replace BK662 := bB BK662 hb; replace BK663 := bV 80 #[.int .i64 t664, .int .i64 t665] BK663 hb; replace HB := bS HB hb; (try clear hb); obtain ⟨hcz27_0, hcz27_1, hfz27_0, hfz27_1⟩ := bK2 (w := w26) BK661))
      go_roundg k1
      case measure => have := HK1.out; omega
      case rel => exact ⟨(wrap64 (Int.tdiv x1_1 2)), (t666), (t667), (t664), (t665), rS, H', ⟨by have := HK1.out; omega⟩, ⟨bU BK661⟩, ⟨bP BK662⟩, ⟨bP BK663⟩, ⟨bZ HB⟩⟩
     ·rw [if_neg c15] at H
      have c15b0 : ((Int.tmod x1_1 2) == 1) = false := beq_eq_false_iff_ne.mpr c15
      have c15b1 : ((Int.tmod x1_1 2) != 1) = true := bne_iff_ne.mpr c15
      replace H := Option.bind_eq_some_iff.mp H
      obtain ⟨⟨t668, t669⟩, A280, H⟩ := H
      have A28 := Aside0.mk A280
      clear A280
      have H' := Aside0.mk H
      clear H
      have hnb29 := NB661_662.out
      have hnc29 := NB662_661.out
      have hnb30 := NB661_663.out
      have hnc30 := NB663_661.out
      obtain ⟨hcz31_0, hcz31_1, hfz31_0, hfz31_1⟩ := bK2 (w := wr) BK661
      go_wp2_with (first | ((with_reducible refine gate_callee (f := 109) rfl ?_); refine gL (some 20) Tryd.func109 #[.agg #[.int .i64 x662000_1, .int .i64 x662001_1], .agg #[.int .i64 x662000_1, .int .i64 x662001_1]] ?_; (with_reducible refine (impl_TwoMul.calls x662000_1 x662001_1 x662000_1 x662001_1 t668 t669 _ A28.out).mono ?_); rintro e w32 ⟨rfl, hb⟩; refine ⟨_, rfl, ?_⟩; replace BK661 := bB BK661 hb; replace BK662 := bB BK662 hb; replace BK663 := bB BK663 hb; replace HB := bS HB hb; (try clear hb); obtain ⟨hcz33_0, hcz33_1, hfz33_0, hfz33_1⟩ := bK2 (w := w32) BK661))
      go_roundg k1
      case measure => have := HK1.out; omega
      case rel => exact ⟨(wrap64 (Int.tdiv x1_1 2)), (t668), (t669), (x664000_1), (x664001_1), rS, H', ⟨by have := HK1.out; omega⟩, ⟨bU BK661⟩, ⟨bP BK662⟩, ⟨bP BK663⟩, ⟨bZ HB⟩⟩
    ·rw [if_neg c14] at H
     have c14b0 : decide (0 < x1_1) = false := decide_eq_false c14
     clear c14
     simp only [Option.some.injEq, Prod.mk.injEq] at H
     obtain ⟨rfl, rfl⟩ := H
     have hnb34 := NB663_661.out
     have hnc34 := NB661_663.out
     have hnb35 := NB663_662.out
     have hnc35 := NB662_663.out
     obtain ⟨hcz36_0, hcz36_1, hfz36_0, hfz36_1⟩ := bK2 (w := wr) BK663
     have hnb37 := NB662_661.out
     have hnc37 := NB661_662.out
     obtain ⟨hcz38_0, hcz38_1, hfz38_0, hfz38_1⟩ := bK2 (w := wr) BK662
     go_wp2
     refine rC gb662 80 #[.int .i64 x664000_1, .int .i64 x664001_1] (bU BK662) Tryd.underlying80 ?_
     exact ⟨rR, bZ HB⟩
/-! ### impl_TwoTurn: function 110 -/
def impl_TwoTurn.f (a0_0 : Int) (a0_1 : Int) : Option (Int × Int) := (impl_FpOf.f a0_0).bind fun t672 => ((impl_FpSub.f 0 a0_1).bind fun t673 => (some (t672, t673)))
def impl_TwoTurn.T1 : Bool × List (List Nat × List Nat) := (true, [([], []), ([0], [0]), ([1], [1]), ([], []), ([3], [3]), ([4, 2], [4]), ([2, 5], [2, 5]), ([6, 5, 0, 1, 2, 3, 4, 5, 6], [6])])
def impl_TwoTurn.B1 : List Nat := [0, 1, 3, 0, 8, 31, 63, 127]
theorem impl_TwoTurn.tab1 : rtab .any (opsOf Tryd.f110 1) = impl_TwoTurn.T1 := by kernel_rfl
theorem impl_TwoTurn.bits1 : waitsOk impl_TwoTurn.T1.2 impl_TwoTurn.B1 = true := by kernel_rfl
set_option maxHeartbeats 8000000 in
set_option maxRecDepth 100000 in
theorem impl_TwoTurn.calls (a0_0 : Int) (a0_1 : Int) (r1 : Int) (r2 : Int) (w : World) (h : impl_TwoTurn.f a0_0 a0_1 = some (r1, r2)) :
  Calls Tryd.prog 110 #[.agg #[.int .i64 a0_0, .int .i64 a0_1]] w fun e w' => e = .returned (.agg #[.int .i64 r1, .int .i64 r2]) ∧ Below w.heap.size w w' := by
 have hu80 := Tryd.underlying80
 have HB := Aside0.mk (Below.refl w.heap.size w)
 have H : ((impl_FpOf.f a0_0).bind fun t672 => ((impl_FpSub.f 0 a0_1).bind fun t673 => (some (t672, t673)))) = some (r1, r2) := h
 clear h
 replace H := Option.bind_eq_some_iff.mp H
 obtain ⟨t672, A20, H⟩ := H
 have A2 := Aside0.mk A20
 clear A20
 replace H := Option.bind_eq_some_iff.mp H
 obtain ⟨t673, A30, H⟩ := H
 have A3 := Aside0.mk A30
 clear A30
 simp only [Option.some.injEq, Prod.mk.injEq] at H
 obtain ⟨rfl, rfl⟩ := H
 go_enter Tryd.func110, Tryd.ntmps110
 try go_wp2_with (first | ((with_reducible refine gate_dst (N := 1) rfl ?_); refine bE 1 #[.int .i64 a0_0, .int .i64 a0_1] 80 ?_; intro gb670 hg w4 hbox hb; have BK670 := Aside0.mk (hbox); have GW670 := bG HB hg; have GE670 := bG HB hg; replace HB := bS HB hb; clear hb hbox hg) | ((with_reducible refine gate_dst (N := 2) rfl ?_); refine bE 2 #[.int .i64 0, .int .i64 0] 80 ?_; intro gb671 hg w5 hbox hb; have BK671 := Aside0.mk (hbox); have GW671 := bG HB hg; have GE671 := bG HB hg; replace HB := bS HB hb; have NB670_671 := bL BK670 hg; have NB671_670 := bR BK670 hg; replace BK670 := bB BK670 hb; clear hb hbox hg))
 replace BK670 := Aside0.mk (blk_drew BK670.out)
 replace BK671 := Aside0.mk (blk_drew BK671.out)
 replace HB := Aside0.mk (below_drew1 HB.out)
 refine start_ (n := 8) (S := fun w' => w'.cell? ⟨gb670, 0, none⟩ = some (.int .i64 a0_0) ∧ w'.cell? ⟨gb670, 1, none⟩ = some (.int .i64 a0_1)) (ds := []) #[false, false, false, false, false, false, false, false] (by kernel_rfl) rfl rfl ⟨bc BK670 0, bc BK670 1⟩ (fun hHeld => ?_); refine with_tabW impl_TwoTurn.tab1 impl_TwoTurn.bits1 (fun HT_ HW_ => ?_)
 generalize w5.drew = w6 at BK670 BK671 HB hHeld ⊢
 refine pI 0 (some 3) HT_.out ?_
 refine pI 3 (some 6) HT_.out ?_
 refine tI2 1 (some 4) HT_.out HW_.out hHeld ?_
 refine tI2 4 (some 7) HT_.out HW_.out hHeld ?_
 refine oI 2 (some 5) HT_.out (fun K hK => ?_)
 refine gO Tryd.func48 #[.int .i64 a0_0] ?_
 with_reducible refine (impl_FpOf.calls a0_0 t672 _ A2.out).mono ?_
 rintro e w' ⟨rfl, ⟨nd, rfl⟩⟩
 refine ⟨_, rfl, ?_⟩
 refine hK.out _ _ ⟨bc BK670 0, bc BK670 1⟩ (fun hHeld => ?_)
 clear hK K
 refine nO (some 5) ?_
 refine oI 5 (some 8) HT_.out (fun K hK => ?_)
 refine gO Tryd.func126 #[.int .i64 0, .int .i64 a0_1] ?_
 with_reducible refine (impl_FpSub.calls 0 a0_1 t673 _ A3.out).mono ?_
 rintro e w' ⟨rfl, ⟨nd, rfl⟩⟩
 refine ⟨_, rfl, ?_⟩
 refine hK.out _ _ ⟨bc BK670 0, bc BK670 1⟩ (fun hHeld => ?_)
 clear hK K
 refine nO (some 8) ?_
 refine pI 6 (some 9) HT_.out ?_
 refine oI 7 (none) HT_.out (fun K hK => ?_)
 have hs7 : w6.cell? ⟨gb671, 0, none⟩ = some (.int .i64 0) := bc BK671 0
 have hfs7 := blk_frozen BK671.out 0
 have hns7_0 := NB670_671.out
 have hms7_0 := NB671_670.out
 have hs8 : w6.cell? ⟨gb671, 1, none⟩ = some (.int .i64 0) := bc BK671 1
 have hfs8 := blk_frozen BK671.out 1
 have hns8_0 := NB670_671.out
 have hms8_0 := NB671_670.out
 refine skip_ (w1 := ?_) (by rfl) rfl ?_ ?_
 rotate_left
 ·go_simp
  rfl
 refine hK.out _ _ ⟨((cell_far (p := ⟨gb671, _, none⟩) NB670_671.out _).trans (((cell_far (p := ⟨gb671, _, none⟩) NB670_671.out _).trans (hHeld.1)))), ((cell_far (p := ⟨gb671, _, none⟩) NB670_671.out _).trans (((cell_far (p := ⟨gb671, _, none⟩) NB670_671.out _).trans (hHeld.2))))⟩ (fun hHeld => ?_)
 clear hK K
 refine done_ (done_of HT_.out (by kernel_rfl)) ?_
 try go_wp2
 refine rC gb671 80 #[.int .i64 t672, .int .i64 t673] (bU BK671) Tryd.underlying80 ?_
 exact ⟨rR, bZ HB⟩
/-! ### impl_TwoInv: function 111 -/
def impl_TwoInv.f (k : Nat) (a0_0 : Int) (a0_1 : Int) : Option (Int × Int) := (impl_FpMul.f a0_0 a0_0).bind fun t676 => ((impl_FpMul.f a0_1 a0_1).bind fun t677 => ((impl_FpAdd.f t676 t677).bind fun t678 => ((impl_FpInv.f k t678).bind fun t679 => ((impl_FpMul.f a0_0 t679).bind fun t680 => ((impl_FpSub.f 0 a0_1).bind fun t681 => ((impl_FpMul.f t681 t679).bind fun t682 => (some (t680, t682))))))))
theorem impl_TwoInv.mono : ∀ a0 a1 k, LeO (impl_TwoInv.f k a0 a1) (impl_TwoInv.f (k + 1) a0 a1) := by
 intro a0 a1 k
 unfold impl_TwoInv.f
 repeat' first
   | (with_reducible exact impl_FpInv.mono _ _)
   | (with_reducible exact LeO.refl _)
   | (with_reducible exact LeO.none _)
   | (with_reducible refine LeO.ite ?_ ?_)
   | (with_reducible refine LeO.bind ?_ (fun _ => ?_))
   | exact impl_FpInv.mono _ _
   | exact LeO.none _
   | refine LeO.ite ?_ ?_
   | refine LeO.bind ?_ (fun _ => ?_)
def impl_TwoInv.T1 : Bool × List (List Nat × List Nat) := (true, [([], []), ([0], [0]), ([], []), ([2], [2]), ([1, 3], [1, 3]), ([], []), ([5], [5]), ([], []), ([7], [7]), ([6, 8, 4], [6, 8]), ([4, 9, 9], [4, 9]), ([10, 10], [10]), ([11, 11, 0, 1, 2, 3, 4, 5, 6, 7, 8, 9, 10, 11], [11])])
def impl_TwoInv.B1 : List Nat := [0, 1, 0, 4, 15, 0, 32, 0, 128, 511, 1023, 2047, 4095]
theorem impl_TwoInv.tab1 : rtab .any (opsOf Tryd.f111 1) = impl_TwoInv.T1 := by kernel_rfl
theorem impl_TwoInv.bits1 : waitsOk impl_TwoInv.T1.2 impl_TwoInv.B1 = true := by kernel_rfl
def impl_TwoInv.T2 : Bool × List (List Nat × List Nat) := (true, [([], []), ([0], [0]), ([], []), ([1, 2], [1, 2]), ([], []), ([4], [4]), ([5, 3], [5]), ([], []), ([6, 7, 6], [6, 7]), ([3, 8], [3, 8]), ([9, 8, 0, 1, 2, 3, 4, 5, 6, 7, 8, 9], [9])])
def impl_TwoInv.B2 : List Nat := [0, 1, 0, 7, 0, 16, 63, 0, 255, 511, 1023]
theorem impl_TwoInv.tab2 : rtab .any (opsOf Tryd.f111 2) = impl_TwoInv.T2 := by kernel_rfl
theorem impl_TwoInv.bits2 : waitsOk impl_TwoInv.T2.2 impl_TwoInv.B2 = true := by kernel_rfl
set_option maxHeartbeats 8000000 in
set_option maxRecDepth 100000 in
theorem impl_TwoInv.calls (k : Nat) (a0_0 : Int) (a0_1 : Int) (r1 : Int) (r2 : Int) (w : World) (h : impl_TwoInv.f k a0_0 a0_1 = some (r1, r2)) :
  Calls Tryd.prog 111 #[.agg #[.int .i64 a0_0, .int .i64 a0_1]] w fun e w' => e = .returned (.agg #[.int .i64 r1, .int .i64 r2]) ∧ Below w.heap.size w w' := by
 have hu80 := Tryd.underlying80
 have HB := Aside0.mk (Below.refl w.heap.size w)
 have H : ((impl_FpMul.f a0_0 a0_0).bind fun t676 => ((impl_FpMul.f a0_1 a0_1).bind fun t677 => ((impl_FpAdd.f t676 t677).bind fun t678 => ((impl_FpInv.f k t678).bind fun t679 => ((impl_FpMul.f a0_0 t679).bind fun t680 => ((impl_FpSub.f 0 a0_1).bind fun t681 => ((impl_FpMul.f t681 t679).bind fun t682 => (some (t680, t682))))))))) = some (r1, r2) := h
 clear h
 replace H := Option.bind_eq_some_iff.mp H
 obtain ⟨t676, A20, H⟩ := H
 have A2 := Aside0.mk A20
 clear A20
 replace H := Option.bind_eq_some_iff.mp H
 obtain ⟨t677, A30, H⟩ := H
 have A3 := Aside0.mk A30
 clear A30
 replace H := Option.bind_eq_some_iff.mp H
 obtain ⟨t678, A40, H⟩ := H
 have A4 := Aside0.mk A40
 clear A40
 replace H := Option.bind_eq_some_iff.mp H
 obtain ⟨t679, A50, H⟩ := H
 have A5 := Aside0.mk A50
 clear A50
 replace H := Option.bind_eq_some_iff.mp H
 obtain ⟨t680, A60, H⟩ := H
 have A6 := Aside0.mk A60
 clear A60
 replace H := Option.bind_eq_some_iff.mp H
 obtain ⟨t681, A70, H⟩ := H
 have A7 := Aside0.mk A70
 clear A70
 replace H := Option.bind_eq_some_iff.mp H
 obtain ⟨t682, A80, H⟩ := H
 have A8 := Aside0.mk A80
 clear A80
 simp only [Option.some.injEq, Prod.mk.injEq] at H
 obtain ⟨rfl, rfl⟩ := H
 go_enter Tryd.func111, Tryd.ntmps111
 try go_wp2_with (first | ((with_reducible refine gate_dst (N := 1) rfl ?_); refine bE 1 #[.int .i64 a0_0, .int .i64 a0_1] 80 ?_; intro gb674 hg w9 hbox hb; have BK674 := Aside0.mk (hbox); have GW674 := bG HB hg; have GE674 := bG HB hg; replace HB := bS HB hb; clear hb hbox hg) | ((with_reducible refine gate_dst (N := 2) rfl ?_); refine bE 2 #[.int .i64 0, .int .i64 0] 80 ?_; intro gb675 hg w10 hbox hb; have BK675 := Aside0.mk (hbox); have GW675 := bG HB hg; have GE675 := bG HB hg; replace HB := bS HB hb; have NB674_675 := bL BK674 hg; have NB675_674 := bR BK674 hg; replace BK674 := bB BK674 hb; clear hb hbox hg))
 replace BK674 := Aside0.mk (blk_drew BK674.out)
 replace BK675 := Aside0.mk (blk_drew BK675.out)
 replace HB := Aside0.mk (below_drew1 HB.out)
 refine start_ (n := 13) (S := fun w' => w'.cell? ⟨gb674, 0, none⟩ = some (.int .i64 a0_0) ∧ w'.cell? ⟨gb674, 1, none⟩ = some (.int .i64 a0_1)) (ds := []) #[false, false, false, false, false, false, false, false, false, false, false, false, false] (by kernel_rfl) rfl rfl ⟨bc BK674 0, bc BK674 1⟩ (fun hHeld => ?_); refine with_tabW impl_TwoInv.tab1 impl_TwoInv.bits1 (fun HT_ HW_ => ?_)
 generalize w10.drew = w11 at BK674 BK675 HB hHeld ⊢
 refine pI 0 (some 4) HT_.out ?_
 refine pI 2 (some 6) HT_.out ?_
 refine pI 5 (some 9) HT_.out ?_
 refine pI 7 (some 11) HT_.out ?_
 refine tI2 1 (some 5) HT_.out HW_.out hHeld ?_
 refine tI2 3 (some 7) HT_.out HW_.out hHeld ?_
 refine tI2 6 (some 10) HT_.out HW_.out hHeld ?_
 refine tI2 8 (some 12) HT_.out HW_.out hHeld ?_
 refine oI 4 (some 8) HT_.out (fun K hK => ?_)
 refine gO Tryd.func95 #[.int .i64 a0_0, .int .i64 a0_0] ?_
 with_reducible refine (impl_FpMul.calls a0_0 a0_0 t676 _ A2.out).mono ?_
 rintro e w' ⟨rfl, ⟨nd, rfl⟩⟩
 refine ⟨_, rfl, ?_⟩
 refine hK.out _ _ ⟨bc BK674 0, bc BK674 1⟩ (fun hHeld => ?_)
 clear hK K
 refine nO (some 8) ?_
 refine oI 9 (some 13) HT_.out (fun K hK => ?_)
 refine gO Tryd.func95 #[.int .i64 a0_1, .int .i64 a0_1] ?_
 with_reducible refine (impl_FpMul.calls a0_1 a0_1 t677 _ A3.out).mono ?_
 rintro e w' ⟨rfl, ⟨nd, rfl⟩⟩
 refine ⟨_, rfl, ?_⟩
 refine hK.out _ _ ⟨bc BK674 0, bc BK674 1⟩ (fun hHeld => ?_)
 clear hK K
 refine nO (some 13) ?_
 refine oI 10 (some 14) HT_.out (fun K hK => ?_)
 refine gO Tryd.func96 #[.int .i64 t676, .int .i64 t677] ?_
 with_reducible refine (impl_FpAdd.calls t676 t677 t678 _ A4.out).mono ?_
 rintro e w' ⟨rfl, ⟨nd, rfl⟩⟩
 refine ⟨_, rfl, ?_⟩
 refine hK.out _ _ ⟨bc BK674 0, bc BK674 1⟩ (fun hHeld => ?_)
 clear hK K
 refine nO (some 14) ?_
 refine oI 11 (some 15) HT_.out (fun K hK => ?_)
 refine gO Tryd.func134 #[.int .i64 t678] ?_
 with_reducible refine (impl_FpInv.calls k t678 t679 _ A5.out).mono ?_
 rintro e w' ⟨rfl, ⟨nd, rfl⟩⟩
 refine ⟨_, rfl, ?_⟩
 refine hK.out _ _ ⟨bc BK674 0, bc BK674 1⟩ (fun hHeld => ?_)
 clear hK K
 refine nO (some 15) ?_
 refine pI 12 (some 3) HT_.out ?_
 refine done_ (done_of HT_.out (by kernel_rfl)) ?_
 try go_wp2
 (try simp only [World.drewN_drewN]); (try (rw [drewN_self w11]; generalize hq_ : World.drewN w11 _ = w11; replace BK674 : Aside0 (w11.heap[gb674]? = some (.cells #[.int .i64 a0_0, .int .i64 a0_1] 80 (0, 0))) := ⟨by rw [← hq_]; exact (bP BK674)⟩; replace BK675 : Aside0 (w11.heap[gb675]? = some (.cells #[.int .i64 0, .int .i64 0] 80 (0, 0))) := ⟨by rw [← hq_]; exact (bP BK675)⟩; replace HB : Aside0 (Below w.heap.size w w11) := ⟨by rw [← hq_]; exact (bZ HB)⟩; clear hq_))
 replace BK674 := Aside0.mk (blk_drew BK674.out)
 replace BK675 := Aside0.mk (blk_drew BK675.out)
 replace HB := Aside0.mk (below_drew1 HB.out)
 refine start_ (n := 11) (S := fun w' => w'.cell? ⟨gb674, 0, none⟩ = some (.int .i64 a0_0) ∧ w'.cell? ⟨gb674, 1, none⟩ = some (.int .i64 a0_1)) (ds := []) #[false, false, false, false, false, false, false, false, false, false, false] (by kernel_rfl) rfl rfl ⟨bc BK674 0, bc BK674 1⟩ (fun hHeld => ?_); refine with_tabW impl_TwoInv.tab2 impl_TwoInv.bits2 (fun HT_ HW_ => ?_)
 generalize w11.drew = w12 at BK674 BK675 HB hHeld ⊢
 refine pI 0 (some 16) HT_.out ?_
 refine pI 2 (some 18) HT_.out ?_
 refine pI 4 (some 20) HT_.out ?_
 refine pI 7 (some 23) HT_.out ?_
 refine tI2 1 (some 17) HT_.out HW_.out hHeld ?_
 refine tI2 5 (some 21) HT_.out HW_.out hHeld ?_
 refine oI 3 (some 19) HT_.out (fun K hK => ?_)
 refine gO Tryd.func95 #[.int .i64 a0_0, .int .i64 t679] ?_
 with_reducible refine (impl_FpMul.calls a0_0 t679 t680 _ A6.out).mono ?_
 rintro e w' ⟨rfl, ⟨nd, rfl⟩⟩
 refine ⟨_, rfl, ?_⟩
 refine hK.out _ _ ⟨bc BK674 0, bc BK674 1⟩ (fun hHeld => ?_)
 clear hK K
 refine nO (some 19) ?_
 refine oI 6 (some 22) HT_.out (fun K hK => ?_)
 refine gO Tryd.func126 #[.int .i64 0, .int .i64 a0_1] ?_
 with_reducible refine (impl_FpSub.calls 0 a0_1 t681 _ A7.out).mono ?_
 rintro e w' ⟨rfl, ⟨nd, rfl⟩⟩
 refine ⟨_, rfl, ?_⟩
 refine hK.out _ _ ⟨bc BK674 0, bc BK674 1⟩ (fun hHeld => ?_)
 clear hK K
 refine nO (some 22) ?_
 refine oI 8 (some 24) HT_.out (fun K hK => ?_)
 refine gO Tryd.func95 #[.int .i64 t681, .int .i64 t679] ?_
 with_reducible refine (impl_FpMul.calls t681 t679 t682 _ A8.out).mono ?_
 rintro e w' ⟨rfl, ⟨nd, rfl⟩⟩
 refine ⟨_, rfl, ?_⟩
 refine hK.out _ _ ⟨bc BK674 0, bc BK674 1⟩ (fun hHeld => ?_)
 clear hK K
 refine nO (some 24) ?_
 refine pI 9 (some 25) HT_.out ?_
 refine oI 10 (none) HT_.out (fun K hK => ?_)
 have hs13 : w12.cell? ⟨gb675, 0, none⟩ = some (.int .i64 0) := bc BK675 0
 have hfs13 := blk_frozen BK675.out 0
 have hns13_0 := NB674_675.out
 have hms13_0 := NB675_674.out
 have hs14 : w12.cell? ⟨gb675, 1, none⟩ = some (.int .i64 0) := bc BK675 1
 have hfs14 := blk_frozen BK675.out 1
 have hns14_0 := NB674_675.out
 have hms14_0 := NB675_674.out
 refine skip_ (w1 := ?_) (by rfl) rfl ?_ ?_
 rotate_left
 ·go_simp
  rfl
 refine hK.out _ _ ⟨((cell_far (p := ⟨gb675, _, none⟩) NB674_675.out _).trans (((cell_far (p := ⟨gb675, _, none⟩) NB674_675.out _).trans (hHeld.1)))), ((cell_far (p := ⟨gb675, _, none⟩) NB674_675.out _).trans (((cell_far (p := ⟨gb675, _, none⟩) NB674_675.out _).trans (hHeld.2))))⟩ (fun hHeld => ?_)
 clear hK K
 refine done_ (done_of HT_.out (by kernel_rfl)) ?_
 try go_wp2
 refine rC gb675 80 #[.int .i64 t680, .int .i64 t682] (bU BK675) Tryd.underlying80 ?_
 exact ⟨rR, bZ HB⟩
/-! ### impl_Pairing: function 68 -/
def impl_Pairing.j0 : Nat → Bool → Int → Int → Bool → Int → Int → Bool → Option (Int × Int)
 | 0, _, _, _, _, _, _, _ => none
 | k + 1, x21, x684000, x684001, x684002, x685000, x685001, x685002 => if x21 = true then (some (1, 0)) else ((impl_Miller.f k x684000 x684001 x684002 x685000 x685001 x685002).bind fun bt688 => ((impl_TwoTurn.f bt688.1 bt688.2).bind fun bt691 => ((impl_TwoInv.f k bt688.1 bt688.2).bind fun bt693 => ((impl_TwoMul.f bt691.1 bt691.2 bt693.1 bt693.2).bind fun bt695 => ((impl_TwoPow.f k bt695.1 bt695.2 12).bind fun bt697 => (some (bt697.1, bt697.2)))))))
def impl_Pairing.f (k : Nat) (a0_0 : Int) (a0_1 : Int) (a0_2 : Bool) (a1_0 : Int) (a1_1 : Int) (a1_2 : Bool) : Option (Int × Int) := if a0_2 = true then (impl_Pairing.j0 k true a0_0 a0_1 a0_2 a1_0 a1_1 a1_2) else (if a1_2 = true then (impl_Pairing.j0 k true a0_0 a0_1 a0_2 a1_0 a1_1 a1_2) else ((impl_InGroup.f k a0_0 a0_1 a0_2).bind fun t686 => (if t686 = true then ((impl_InGroup.f k a1_0 a1_1 a1_2).bind fun t687 => (impl_Pairing.j0 k (!t687) a0_0 a0_1 a0_2 a1_0 a1_1 a1_2)) else (impl_Pairing.j0 k true a0_0 a0_1 a0_2 a1_0 a1_1 a1_2))))
theorem impl_Pairing.mono_l : ∀ k, (∀ y0 y1 y2 y3 y4 y5 y6, LeO (impl_Pairing.j0 k y0 y1 y2 y3 y4 y5 y6) (impl_Pairing.j0 (k + 1) y0 y1 y2 y3 y4 y5 y6))
 | 0 => fun _ _ _ _ _ _ _ r h => by simp [impl_Pairing.j0] at h
 | k + 1 => by
  have ih0 := impl_Pairing.mono_l k
  ·intro y0 y1 y2 y3 y4 y5 y6
   unfold impl_Pairing.j0
   repeat' first
   | (with_reducible exact ih0 _ _ _ _ _ _ _)
   | (with_reducible exact impl_InGroup.mono _ _ _ _)
   | (with_reducible exact impl_Miller.mono _ _ _ _ _ _ _)
   | (with_reducible exact impl_TwoInv.mono _ _ _)
   | (with_reducible exact impl_TwoPow.mono _ _ _ _)
   | (with_reducible exact LeO.refl _)
   | (with_reducible exact LeO.none _)
   | (with_reducible refine LeO.ite ?_ ?_)
   | (with_reducible refine LeO.bind ?_ (fun _ => ?_))
   | exact ih0 _ _ _ _ _ _ _
   | exact impl_InGroup.mono _ _ _ _
   | exact impl_Miller.mono _ _ _ _ _ _ _
   | exact impl_TwoInv.mono _ _ _
   | exact impl_TwoPow.mono _ _ _ _
   | exact LeO.none _
   | refine LeO.ite ?_ ?_
   | refine LeO.bind ?_ (fun _ => ?_)
theorem impl_Pairing.mono : ∀ a0 a1 a2 a3 a4 a5 k, LeO (impl_Pairing.f k a0 a1 a2 a3 a4 a5) (impl_Pairing.f (k + 1) a0 a1 a2 a3 a4 a5) := by
 intro a0 a1 a2 a3 a4 a5 k
 have ih0 := impl_Pairing.mono_l k
 unfold impl_Pairing.f
 repeat' first
   | (with_reducible exact ih0 _ _ _ _ _ _ _)
   | (with_reducible exact impl_InGroup.mono _ _ _ _)
   | (with_reducible exact impl_Miller.mono _ _ _ _ _ _ _)
   | (with_reducible exact impl_TwoInv.mono _ _ _)
   | (with_reducible exact impl_TwoPow.mono _ _ _ _)
   | (with_reducible exact LeO.refl _)
   | (with_reducible exact LeO.none _)
   | (with_reducible refine LeO.ite ?_ ?_)
   | (with_reducible refine LeO.bind ?_ (fun _ => ?_))
   | exact ih0 _ _ _ _ _ _ _
   | exact impl_InGroup.mono _ _ _ _
   | exact impl_Miller.mono _ _ _ _ _ _ _
   | exact impl_TwoInv.mono _ _ _
   | exact impl_TwoPow.mono _ _ _ _
   | exact LeO.none _
   | refine LeO.ite ?_ ?_
   | refine LeO.bind ?_ (fun _ => ?_)
set_option maxHeartbeats 8000000 in
set_option maxRecDepth 100000 in
theorem impl_Pairing.calls (k : Nat) (a0_0 : Int) (a0_1 : Int) (a0_2 : Bool) (a1_0 : Int) (a1_1 : Int) (a1_2 : Bool) (r1 : Int) (r2 : Int) (w : World) (h : impl_Pairing.f k a0_0 a0_1 a0_2 a1_0 a1_1 a1_2 = some (r1, r2)) :
  Calls Tryd.prog 68 #[.agg #[.int .i64 a0_0, .int .i64 a0_1, .bool a0_2], .agg #[.int .i64 a1_0, .int .i64 a1_1, .bool a1_2]] w fun e w' => e = .returned (.agg #[.int .i64 r1, .int .i64 r2]) ∧ Below w.heap.size w w' := by
 have hu23 := Tryd.underlying23
 have hu80 := Tryd.underlying80
 have HB := Aside0.mk (Below.refl w.heap.size w)
 have H : (if a0_2 = true then (impl_Pairing.j0 k true a0_0 a0_1 a0_2 a1_0 a1_1 a1_2) else (if a1_2 = true then (impl_Pairing.j0 k true a0_0 a0_1 a0_2 a1_0 a1_1 a1_2) else ((impl_InGroup.f k a0_0 a0_1 a0_2).bind fun t686 => (if t686 = true then ((impl_InGroup.f k a1_0 a1_1 a1_2).bind fun t687 => (impl_Pairing.j0 k (!t687) a0_0 a0_1 a0_2 a1_0 a1_1 a1_2)) else (impl_Pairing.j0 k true a0_0 a0_1 a0_2 a1_0 a1_1 a1_2))))) = some (r1, r2) := h
 clear h
 have HC3 := Aside0.mk H
 clear H
 go_enter Tryd.func68, Tryd.ntmps68
 go_upto_region 1 with (first | ((with_reducible refine gate_dst (N := 2) rfl ?_); refine bE 2 #[.int .i64 a0_0, .int .i64 a0_1, .bool a0_2] 23 ?_; intro gb683 hg w4 hbox hb; have BK683 := Aside0.mk (hbox); have GW683 := bG HB hg; have GE683 := bG HB hg; replace HB := bS HB hb; clear hb hbox hg) | ((with_reducible refine gate_dst (N := 3) rfl ?_); refine bE 3 #[.int .i64 a1_0, .int .i64 a1_1, .bool a1_2] 23 ?_; intro gb684 hg w5 hbox hb; have BK684 := Aside0.mk (hbox); have GW684 := bG HB hg; have GE684 := bG HB hg; replace HB := bS HB hb; have NB683_684 := bL BK683 hg; have NB684_683 := bR BK683 hg; replace BK683 := bB BK683 hb; clear hb hbox hg) | ((with_reducible refine gate_dst (N := 4) rfl ?_); refine bE 4 #[.int .i64 0, .int .i64 0] 80 ?_; intro gb685 hg w6 hbox hb; have BK685 := Aside0.mk (hbox); have GW685 := bG HB hg; have GE685 := bG HB hg; replace HB := bS HB hb; have NB683_685 := bL BK683 hg; have NB685_683 := bR BK683 hg; replace BK683 := bB BK683 hb; have NB684_685 := bL BK684 hg; have NB685_684 := bR BK684 hg; replace BK684 := bB BK684 hb; clear hb hbox hg))
 (try simp only [Act.put, List.setIfInBounds_toArray, List.set_cons_zero, List.set_cons_succ])
 go_cut [21] (fun v21 wc => ∃ (kq : Nat) (x21_2 : Bool), v21 = .bool x21_2 ∧ Aside0 (impl_Pairing.j0 kq x21_2 a0_0 a0_1 a0_2 a1_0 a1_1 a1_2 = some (r1, r2)) ∧ Aside0 (kq ≤ k) ∧ Aside0 (wc.heap[gb683]? = some (.cells #[.int .i64 a0_0, .int .i64 a0_1, .bool a0_2] 23 (0, 0))) ∧ Aside0 (wc.heap[gb684]? = some (.cells #[.int .i64 a1_0, .int .i64 a1_1, .bool a1_2] 23 (0, 0))) ∧ Aside0 (wc.heap[gb685]? = some (.cells #[.int .i64 0, .int .i64 0] 80 (0, 0))) ∧ Aside0 (Below w.heap.size w wc))
 case first =>
  have H := HC3.out
  clear HC3
  by_cases c7 : a0_2 = true
  ·subst c7
   rw [if_pos rfl] at H
   have H' := Aside0.mk H
   clear H
   have hnb8 := NB683_684.out
   have hnc8 := NB684_683.out
   have hnb9 := NB683_685.out
   have hnc9 := NB685_683.out
   obtain ⟨hcz10_0, hcz10_1, hcz10_2, hfz10_0, hfz10_1, hfz10_2⟩ := bK3 (w := w6) BK683
   go_wp2
   go_meet
   case rel => exact ⟨_, (true), rS, H', ⟨by first | omega | exact Nat.le_refl _⟩, ⟨bP BK683⟩, ⟨bP BK684⟩, ⟨bP BK685⟩, ⟨bZ HB⟩⟩
  ·replace c7 := Bool.eq_false_iff.mpr c7
   subst c7
   rw [if_neg (show ¬ (false = true) by decide)] at H
   by_cases c11 : a1_2 = true
   ·subst c11
    rw [if_pos rfl] at H
    have H' := Aside0.mk H
    clear H
    have hnb12 := NB683_684.out
    have hnc12 := NB684_683.out
    have hnb13 := NB683_685.out
    have hnc13 := NB685_683.out
    obtain ⟨hcz14_0, hcz14_1, hcz14_2, hfz14_0, hfz14_1, hfz14_2⟩ := bK3 (w := w6) BK683
    have hnb15 := NB684_685.out
    have hnc15 := NB685_684.out
    obtain ⟨hcz16_0, hcz16_1, hcz16_2, hfz16_0, hfz16_1, hfz16_2⟩ := bK3 (w := w6) BK684
    go_wp2
    go_meet
    case rel => exact ⟨_, (true), rS, H', ⟨by first | omega | exact Nat.le_refl _⟩, ⟨bP BK683⟩, ⟨bP BK684⟩, ⟨bP BK685⟩, ⟨bZ HB⟩⟩
   ·replace c11 := Bool.eq_false_iff.mpr c11
    subst c11
    rw [if_neg (show ¬ (false = true) by decide)] at H
    replace H := Option.bind_eq_some_iff.mp H
    obtain ⟨t686, A170, H⟩ := H
    have A17 := Aside0.mk A170
    clear A170
    by_cases c18 : t686 = true
    ·subst c18
     rw [if_pos rfl] at H
     replace H := Option.bind_eq_some_iff.mp H
     obtain ⟨t687, A190, H⟩ := H
     have A19 := Aside0.mk A190
     clear A190
     have H' := Aside0.mk H
     clear H
     have hnb20 := NB683_684.out
     have hnc20 := NB684_683.out
     have hnb21 := NB683_685.out
     have hnc21 := NB685_683.out
     obtain ⟨hcz22_0, hcz22_1, hcz22_2, hfz22_0, hfz22_1, hfz22_2⟩ := bK3 (w := w6) BK683
     have hnb23 := NB684_685.out
     have hnc23 := NB685_684.out
     obtain ⟨hcz24_0, hcz24_1, hcz24_2, hfz24_0, hfz24_1, hfz24_2⟩ := bK3 (w := w6) BK684
     go_wp2_with (first | (go_at_call 67; (with_reducible refine (impl_InGroup.calls k a0_0 a0_1 false true _ A17.out).mono ?_); rintro e w25 ⟨rfl, hb⟩; replace BK683 := bB BK683 hb; replace BK684 := bB BK684 hb; replace BK685 := bB BK685 hb; replace HB := bS HB hb; (try clear hb); obtain ⟨hcz26_0, hcz26_1, hcz26_2, hfz26_0, hfz26_1, hfz26_2⟩ := bK3 (w := w25) BK684) | (go_at_call 67; (with_reducible refine (impl_InGroup.calls k a1_0 a1_1 false t687 _ A19.out).mono ?_); rintro e w27 ⟨rfl, hb⟩; replace BK683 := bB BK683 hb; replace BK684 := bB BK684 hb; replace BK685 := bB BK685 hb; replace HB := bS HB hb; (try clear hb)))
     go_meet
     case rel => exact ⟨_, (!t687), rS, H', ⟨by first | omega | exact Nat.le_refl _⟩, ⟨bP BK683⟩, ⟨bP BK684⟩, ⟨bP BK685⟩, ⟨bZ HB⟩⟩
    ·replace c18 := Bool.eq_false_iff.mpr c18
     subst c18
     rw [if_neg (show ¬ (false = true) by decide)] at H
     have H' := Aside0.mk H
     clear H
     have hnb28 := NB683_684.out
     have hnc28 := NB684_683.out
     have hnb29 := NB683_685.out
     have hnc29 := NB685_683.out
     obtain ⟨hcz30_0, hcz30_1, hcz30_2, hfz30_0, hfz30_1, hfz30_2⟩ := bK3 (w := w6) BK683
     have hnb31 := NB684_685.out
     have hnc31 := NB685_684.out
     obtain ⟨hcz32_0, hcz32_1, hcz32_2, hfz32_0, hfz32_1, hfz32_2⟩ := bK3 (w := w6) BK684
     go_wp2_with (first | (go_at_call 67; (with_reducible refine (impl_InGroup.calls k a0_0 a0_1 false false _ A17.out).mono ?_); rintro e w33 ⟨rfl, hb⟩; replace BK683 := bB BK683 hb; replace BK684 := bB BK684 hb; replace BK685 := bB BK685 hb; replace HB := bS HB hb; (try clear hb)))
     go_meet
     case rel => exact ⟨_, (true), rS, H', ⟨by first | omega | exact Nat.le_refl _⟩, ⟨bP BK683⟩, ⟨bP BK684⟩, ⟨bP BK685⟩, ⟨bZ HB⟩⟩
 case rest =>
  clear HC3
  try clear c1
  try clear c2
  try clear p2
  try clear c3
  try clear c6
  try clear c7
  try clear c8
  try clear c9
  try clear c11
  try clear c12
  try clear c13
  try clear c15
  try clear c18
  try clear c20
  try clear c21
  try clear c23
  try clear c28
  try clear c29
  try clear c31
  try clear hcz10_0
  try clear hcz10_1
  try clear hcz10_2
  try clear hcz14_0
  try clear hcz14_1
  try clear hcz14_2
  try clear hcz16_0
  try clear hcz16_1
  try clear hcz16_2
  try clear hcz22_0
  try clear hcz22_1
  try clear hcz22_2
  try clear hcz24_0
  try clear hcz24_1
  try clear hcz24_2
  try clear hcz26_0
  try clear hcz26_1
  try clear hcz26_2
  try clear hcz30_0
  try clear hcz30_1
  try clear hcz30_2
  try clear hcz32_0
  try clear hcz32_1
  try clear hcz32_2
  try clear hfz10_0
  try clear hfz10_1
  try clear hfz10_2
  try clear hfz14_0
  try clear hfz14_1
  try clear hfz14_2
  try clear hfz16_0
  try clear hfz16_1
  try clear hfz16_2
  try clear hfz22_0
  try clear hfz22_1
  try clear hfz22_2
  try clear hfz24_0
  try clear hfz24_1
  try clear hfz24_2
  try clear hfz26_0
  try clear hfz26_1
  try clear hfz26_2
  try clear hfz30_0
  try clear hfz30_1
  try clear hfz30_2
  try clear hfz32_0
  try clear hfz32_1
  try clear hfz32_2
  obtain ⟨kq, x21_2, rfl, HA, HJ2, BK683, BK684, BK685, HB⟩ := hcut
  cases kq with
  | zero => exact absurd HA.out (by simp [impl_Pairing.j0])
  | succ kj2 =>
   have H := HA.out
   clear HA
   simp only [impl_Pairing.j0] at H
   by_cases c34 : x21_2 = true
   ·subst c34
    rw [if_pos rfl] at H
    simp only [Option.some.injEq, Prod.mk.injEq] at H
    obtain ⟨rfl, rfl⟩ := H
    have hnb35 := NB685_683.out
    have hnc35 := NB683_685.out
    have hnb36 := NB685_684.out
    have hnc36 := NB684_685.out
    obtain ⟨hcz37_0, hcz37_1, hfz37_0, hfz37_1⟩ := bK2 (w := wc) BK685
    go_wp2
    refine rC gb685 80 #[.int .i64 1, .int .i64 0] (bU BK685) Tryd.underlying80 ?_
    exact ⟨rR, bZ HB⟩
   ·replace c34 := Bool.eq_false_iff.mpr c34
    subst c34
    rw [if_neg (show ¬ (false = true) by decide)] at H
    replace H := Option.bind_eq_some_iff.mp H
    obtain ⟨⟨t688, t689⟩, A380, H⟩ := H
    have A38 := Aside0.mk A380
    clear A380
    replace H := Option.bind_eq_some_iff.mp H
    obtain ⟨⟨t691, t692⟩, A390, H⟩ := H
    have A39 := Aside0.mk A390
    clear A390
    replace H := Option.bind_eq_some_iff.mp H
    obtain ⟨⟨t693, t694⟩, A400, H⟩ := H
    have A40 := Aside0.mk A400
    clear A400
    replace H := Option.bind_eq_some_iff.mp H
    obtain ⟨⟨t695, t696⟩, A410, H⟩ := H
    have A41 := Aside0.mk A410
    clear A410
    replace H := Option.bind_eq_some_iff.mp H
    obtain ⟨⟨t697, t698⟩, A420, H⟩ := H
    have A42 := Aside0.mk A420
    clear A420
    simp only [Option.some.injEq, Prod.mk.injEq] at H
    obtain ⟨rfl, rfl⟩ := H
    have hnb43 := NB683_684.out
    have hnc43 := NB684_683.out
    have hnb44 := NB683_685.out
    have hnc44 := NB685_683.out
    obtain ⟨hcz45_0, hcz45_1, hcz45_2, hfz45_0, hfz45_1, hfz45_2⟩ := bK3 (w := wc) BK683
    have hnb46 := NB684_685.out
    have hnc46 := NB685_684.out
    obtain ⟨hcz47_0, hcz47_1, hcz47_2, hfz47_0, hfz47_1, hfz47_2⟩ := bK3 (w := wc) BK684
    try go_wp2_with (first | ((with_reducible refine gate_callee (f := 107) rfl ?_); refine gL (some 25) Tryd.func107 #[.agg #[.int .i64 a0_0, .int .i64 a0_1, .bool a0_2], .agg #[.int .i64 a1_0, .int .i64 a1_1, .bool a1_2]] ?_; (with_reducible refine (impl_Miller.calls kj2 a0_0 a0_1 a0_2 a1_0 a1_1 a1_2 t688 t689 _ A38.out).mono ?_); rintro e w48 ⟨rfl, hb⟩; refine ⟨_, rfl, ?_⟩; replace BK683 := bB BK683 hb; replace BK684 := bB BK684 hb; replace BK685 := bB BK685 hb; replace HB := bS HB hb; (try clear hb)) | ((with_reducible refine gate_dst (N := 5) rfl ?_); refine bE 5 #[.int .i64 0, .int .i64 0] 80 ?_; intro gb690 hg w49 hbox hb; have BK690 := Aside0.mk (hbox); have GW690 := bG HB hg; have GE690 := bG HB hg; replace HB := bS HB hb; have NB683_690 := bL BK683 hg; have NB690_683 := bR BK683 hg; replace BK683 := bB BK683 hb; have NB684_690 := bL BK684 hg; have NB690_684 := bR BK684 hg; replace BK684 := bB BK684 hb; have NB685_690 := bL BK685 hg; have NB690_685 := bR BK685 hg; replace BK685 := bB BK685 hb; clear hb hbox hg; have hnb50 := NB690_683.out; have hnc50 := NB683_690.out; have hnb51 := NB690_684.out; have hnc51 := NB684_690.out; have hnb52 := NB690_685.out; have hnc52 := NB685_690.out; obtain ⟨hcz53_0, hcz53_1, hfz53_0, hfz53_1⟩ := bK2 (w := w49) BK690))
    have n0_ : Aside0 (((w49.setCell ⟨gb690, 0, none⟩ (.int .i64 t688)).setCell ⟨gb690, 1, none⟩ (.int .i64 t689)).heap[gb683]? = some (.cells #[.int .i64 a0_0, .int .i64 a0_1, .bool a0_2] 23 (0, 0))) := ⟨bP BK683⟩
    have n1_ : Aside0 (((w49.setCell ⟨gb690, 0, none⟩ (.int .i64 t688)).setCell ⟨gb690, 1, none⟩ (.int .i64 t689)).heap[gb684]? = some (.cells #[.int .i64 a1_0, .int .i64 a1_1, .bool a1_2] 23 (0, 0))) := ⟨bP BK684⟩
    have n2_ : Aside0 (((w49.setCell ⟨gb690, 0, none⟩ (.int .i64 t688)).setCell ⟨gb690, 1, none⟩ (.int .i64 t689)).heap[gb685]? = some (.cells #[.int .i64 0, .int .i64 0] 80 (0, 0))) := ⟨bP BK685⟩
    have n3_ : Aside0 (((w49.setCell ⟨gb690, 0, none⟩ (.int .i64 t688)).setCell ⟨gb690, 1, none⟩ (.int .i64 t689)).heap[gb690]? = some (.cells #[.int .i64 t688, .int .i64 t689] 80 (0, 0))) := ⟨bU BK690⟩
    have n4_ : Aside0 (Below w.heap.size w ((w49.setCell ⟨gb690, 0, none⟩ (.int .i64 t688)).setCell ⟨gb690, 1, none⟩ (.int .i64 t689))) := ⟨bZ HB⟩
    (try clear BK683)
    (try clear BK684)
    (try clear BK685)
    (try clear BK690)
    (try clear HB)
    generalize ((w49.setCell ⟨gb690, 0, none⟩ (.int .i64 t688)).setCell ⟨gb690, 1, none⟩ (.int .i64 t689)) = w54 at n0_ n1_ n2_ n3_ n4_ ⊢
    have BK683 := n0_
    have BK684 := n1_
    have BK685 := n2_
    have BK690 := n3_
    have HB := n4_
    clear n0_ n1_ n2_ n3_ n4_
    replace BK683 := Aside0.mk (blk_drew BK683.out)
    replace BK684 := Aside0.mk (blk_drew BK684.out)
    replace BK685 := Aside0.mk (blk_drew BK685.out)
    replace BK690 := Aside0.mk (blk_drew BK690.out)
    replace HB := Aside0.mk (below_drew1 HB.out)
    refine start_ (n := 7) (S := fun w' => w'.cell? ⟨gb690, 0, none⟩ = some (.int .i64 t688) ∧ w'.cell? ⟨gb690, 1, none⟩ = some (.int .i64 t689)) (ds := []) #[false, false, false, false, false, false, false] (by kernel_rfl) rfl rfl ⟨bc BK690 0, bc BK690 1⟩ (fun hHeld => ?_)
    generalize w54.drew = w55 at BK683 BK684 BK685 BK690 HB hHeld ⊢
    refine take_ (i := 0) (N := some 26) (v := ?_) (a' := ?_) #[true, false, false, false, false, false, false] rfl rfl (by kernel_rfl) (fun _ _ _ h => h) (Or.inl ⟨by rfl, ?_⟩) hHeld ?_ ?_
    rotate_left
    ·rintro w' ⟨s0, s1⟩
     go_simp
     with_reducible rfl
    rotate_left
    ·simp only [Act.put, List.setIfInBounds_toArray, List.set_cons_zero, List.set_cons_succ, i64_w, i32_w]
     rfl
    refine take_ (i := 2) (N := some 28) (v := ?_) (a' := ?_) #[true, false, true, false, false, false, false] rfl rfl (by kernel_rfl) (fun _ _ _ h => h) (Or.inl ⟨by rfl, ?_⟩) hHeld ?_ ?_
    rotate_left
    ·rintro w' ⟨s0, s1⟩
     go_simp
     with_reducible rfl
    rotate_left
    ·simp only [Act.put, List.setIfInBounds_toArray, List.set_cons_zero, List.set_cons_succ, i64_w, i32_w]
     rfl
    refine one_ (i := 1) (N := some 27) #[true, true, true, false, false, false, false] rfl rfl (by kernel_rfl) (by decide) (fun K hK => ?_)
    refine gO Tryd.func110 #[.agg #[.int .i64 t688, .int .i64 t689]] ?_
    with_reducible refine (impl_TwoTurn.calls t688 t689 t691 t692 _ A39.out).mono ?_
    rintro e w56 ⟨rfl, hb⟩
    refine ⟨_, rfl, ?_⟩
    replace BK683 := bB BK683 hb
    replace BK684 := bB BK684 hb
    replace BK685 := bB BK685 hb
    replace BK690 := bB BK690 hb
    replace HB := bS HB hb
    (try clear hb)
    refine hK.out _ _ ⟨bc BK690 0, bc BK690 1⟩ (fun hHeld => ?_)
    clear hK K
    refine nO (some 27) ?_
    refine one_ (i := 3) (N := some 29) #[true, true, true, true, false, false, false] rfl rfl (by kernel_rfl) (by decide) (fun K hK => ?_)
    refine gO Tryd.func111 #[.agg #[.int .i64 t688, .int .i64 t689]] ?_
    with_reducible refine (impl_TwoInv.calls kj2 t688 t689 t693 t694 _ A40.out).mono ?_
    rintro e w57 ⟨rfl, hb⟩
    refine ⟨_, rfl, ?_⟩
    replace BK683 := bB BK683 hb
    replace BK684 := bB BK684 hb
    replace BK685 := bB BK685 hb
    replace BK690 := bB BK690 hb
    replace HB := bS HB hb
    (try clear hb)
    refine hK.out _ _ ⟨bc BK690 0, bc BK690 1⟩ (fun hHeld => ?_)
    clear hK K
    refine nO (some 29) ?_
    refine one_ (i := 4) (N := some 30) #[true, true, true, true, true, false, false] rfl rfl (by kernel_rfl) (by decide) (fun K hK => ?_)
    refine gO Tryd.func109 #[.agg #[.int .i64 t691, .int .i64 t692], .agg #[.int .i64 t693, .int .i64 t694]] ?_
    with_reducible refine (impl_TwoMul.calls t691 t692 t693 t694 t695 t696 _ A41.out).mono ?_
    rintro e w58 ⟨rfl, hb⟩
    refine ⟨_, rfl, ?_⟩
    replace BK683 := bB BK683 hb
    replace BK684 := bB BK684 hb
    replace BK685 := bB BK685 hb
    replace BK690 := bB BK690 hb
    replace HB := bS HB hb
    (try clear hb)
    refine hK.out _ _ ⟨bc BK690 0, bc BK690 1⟩ (fun hHeld => ?_)
    clear hK K
    refine nO (some 30) ?_
    refine one_ (i := 5) (N := some 31) #[true, true, true, true, true, true, false] rfl rfl (by kernel_rfl) (by decide) (fun K hK => ?_)
    refine gO Tryd.func108 #[.agg #[.int .i64 t695, .int .i64 t696], .int .i64 12] ?_
    with_reducible refine (impl_TwoPow.calls kj2 t695 t696 12 t697 t698 _ A42.out).mono ?_
    rintro e w59 ⟨rfl, hb⟩
    refine ⟨_, rfl, ?_⟩
    replace BK683 := bB BK683 hb
    replace BK684 := bB BK684 hb
    replace BK685 := bB BK685 hb
    replace BK690 := bB BK690 hb
    replace HB := bS HB hb
    (try clear hb)
    refine hK.out _ _ ⟨bc BK690 0, bc BK690 1⟩ (fun hHeld => ?_)
    clear hK K
    refine nO (some 31) ?_
    refine one_ (i := 6) (N := none) #[true, true, true, true, true, true, true] rfl rfl (by kernel_rfl) (by decide) (fun K hK => ?_)
    have hs60 : w59.cell? ⟨gb685, 0, none⟩ = some (.int .i64 0) := bc BK685 0
    have hfs60 := blk_frozen BK685.out 0
    have hns60_0 := NB683_685.out
    have hns60_1 := NB684_685.out
    have hns60_3 := NB690_685.out
    have hms60_0 := NB685_683.out
    have hms60_1 := NB685_684.out
    have hms60_3 := NB685_690.out
    have hs61 : w59.cell? ⟨gb685, 1, none⟩ = some (.int .i64 0) := bc BK685 1
    have hfs61 := blk_frozen BK685.out 1
    have hns61_0 := NB683_685.out
    have hns61_1 := NB684_685.out
    have hns61_3 := NB690_685.out
    have hms61_0 := NB685_683.out
    have hms61_1 := NB685_684.out
    have hms61_3 := NB685_690.out
    refine skip_ (w1 := ?_) (by rfl) rfl ?_ ?_
    rotate_left
    ·go_simp
     rfl
    refine hK.out _ _ ⟨((cell_far (p := ⟨gb685, _, none⟩) NB690_685.out _).trans (((cell_far (p := ⟨gb685, _, none⟩) NB690_685.out _).trans (hHeld.1)))), ((cell_far (p := ⟨gb685, _, none⟩) NB690_685.out _).trans (((cell_far (p := ⟨gb685, _, none⟩) NB690_685.out _).trans (hHeld.2))))⟩ (fun hHeld => ?_)
    clear hK K
    refine done_ (by kernel_rfl) ?_
    try go_wp2
    refine rC gb685 80 #[.int .i64 t697, .int .i64 t698] (bU BK685) Tryd.underlying80 ?_
    exact ⟨rR, bZ HB⟩
end Go.Proofs.YtkdmplfldfagnaaDoor.Pf
end
section
namespace Go.Proofs.YtkdmplfldfagnaaDoor.Pf
open Go.RowKit Go.Proofs.YtkdmplfldfagnaaDoorW.PrintWords Go.Proofs.YtkdmplfldfagnaaDoorW.PrintLast Go.Proofs.YtkdmplfldfagnaaDoorW.PrintMore
attribute [local go_sem] max2_int min2_int max_two min_two max_three min_three max_four min_four   -- for this text's walks alone
set_option linter.unusedVariables false
set_option linter.unusedSimpArgs false
attribute [local go_sem high] eqA80
/-! ### impl_SigOk: function 24 -/
def impl_SigOk.j0 : Nat → ByteArray → Bool → Int → Int → Bool → Int → Int → Bool → Option (Bool)
 | 0, _, _, _, _, _, _, _, _ => none
 | k + 1, x1, x22, x700000, x700001, x700002, x701000, x701001, x701002 => if x22 = true then (some false) else ((impl_Base.f).bind fun bt703 => ((impl_Pairing.f k x701000 x701001 x701002 bt703.1 bt703.2.1 bt703.2.2).bind fun bt706 => ((impl_HashPoint.f k x1).bind fun bt708 => ((impl_Pairing.f k bt708.1 bt708.2.1 bt708.2.2 x700000 x700001 x700002).bind fun bt711 => (some (bt706.1 == bt711.1 && (bt706.2 == bt711.2)))))))
def impl_SigOk.f (k : Nat) (a0_0 : Int) (a0_1 : Int) (a0_2 : Bool) (a1 : ByteArray) (a2_0 : Int) (a2_1 : Int) (a2_2 : Bool) : Option (Bool) := if a0_2 = true then (impl_SigOk.j0 k a1 true a0_0 a0_1 a0_2 a2_0 a2_1 a2_2) else (if a2_2 = true then (impl_SigOk.j0 k a1 true a0_0 a0_1 a0_2 a2_0 a2_1 a2_2) else ((impl_InGroup.f k a0_0 a0_1 a0_2).bind fun t701 => (if t701 = true then ((impl_InGroup.f k a2_0 a2_1 a2_2).bind fun t702 => (impl_SigOk.j0 k a1 (!t702) a0_0 a0_1 a0_2 a2_0 a2_1 a2_2)) else (impl_SigOk.j0 k a1 true a0_0 a0_1 a0_2 a2_0 a2_1 a2_2))))
theorem impl_SigOk.mono_l : ∀ k, (∀ y0 y1 y2 y3 y4 y5 y6 y7, LeO (impl_SigOk.j0 k y0 y1 y2 y3 y4 y5 y6 y7) (impl_SigOk.j0 (k + 1) y0 y1 y2 y3 y4 y5 y6 y7))
 | 0 => fun _ _ _ _ _ _ _ _ r h => by simp [impl_SigOk.j0] at h
 | k + 1 => by
  have ih0 := impl_SigOk.mono_l k
  ·intro y0 y1 y2 y3 y4 y5 y6 y7
   unfold impl_SigOk.j0
   repeat' first
   | (with_reducible exact ih0 _ _ _ _ _ _ _ _)
   | (with_reducible exact impl_HashPoint.mono _ _)
   | (with_reducible exact impl_InGroup.mono _ _ _ _)
   | (with_reducible exact impl_Pairing.mono _ _ _ _ _ _ _)
   | (with_reducible exact LeO.refl _)
   | (with_reducible exact LeO.none _)
   | (with_reducible refine LeO.ite ?_ ?_)
   | (with_reducible refine LeO.bind ?_ (fun _ => ?_))
   | exact ih0 _ _ _ _ _ _ _ _
   | exact impl_HashPoint.mono _ _
   | exact impl_InGroup.mono _ _ _ _
   | exact impl_Pairing.mono _ _ _ _ _ _ _
   | exact LeO.none _
   | refine LeO.ite ?_ ?_
   | refine LeO.bind ?_ (fun _ => ?_)
theorem impl_SigOk.mono : ∀ a0 a1 a2 a3 a4 a5 a6 k, LeO (impl_SigOk.f k a0 a1 a2 a3 a4 a5 a6) (impl_SigOk.f (k + 1) a0 a1 a2 a3 a4 a5 a6) := by
 intro a0 a1 a2 a3 a4 a5 a6 k
 have ih0 := impl_SigOk.mono_l k
 unfold impl_SigOk.f
 repeat' first
   | (with_reducible exact ih0 _ _ _ _ _ _ _ _)
   | (with_reducible exact impl_HashPoint.mono _ _)
   | (with_reducible exact impl_InGroup.mono _ _ _ _)
   | (with_reducible exact impl_Pairing.mono _ _ _ _ _ _ _)
   | (with_reducible exact LeO.refl _)
   | (with_reducible exact LeO.none _)
   | (with_reducible refine LeO.ite ?_ ?_)
   | (with_reducible refine LeO.bind ?_ (fun _ => ?_))
   | exact ih0 _ _ _ _ _ _ _ _
   | exact impl_HashPoint.mono _ _
   | exact impl_InGroup.mono _ _ _ _
   | exact impl_Pairing.mono _ _ _ _ _ _ _
   | exact LeO.none _
   | refine LeO.ite ?_ ?_
   | refine LeO.bind ?_ (fun _ => ?_)
def impl_SigOk.T3 : Bool × List (List Nat × List Nat) := (true, [([], []), ([], []), ([0, 1, 1], [0, 1]), ([], []), ([3, 2], [3]), ([], []), ([4, 5, 4], [4, 5]), ([2, 6], [2, 6]), ([7, 6, 0, 1, 2, 3, 4, 5, 6, 7], [7])])
def impl_SigOk.B3 : List Nat := [0, 0, 3, 0, 15, 0, 63, 127, 255]
theorem impl_SigOk.tab3 : rtab .any (opsOf Tryd.f24 3) = impl_SigOk.T3 := by kernel_rfl
theorem impl_SigOk.bits3 : waitsOk impl_SigOk.T3.2 impl_SigOk.B3 = true := by kernel_rfl
set_option maxHeartbeats 8000000 in
set_option maxRecDepth 100000 in
theorem impl_SigOk.calls (k : Nat) (a0_0 : Int) (a0_1 : Int) (a0_2 : Bool) (a1 : ByteArray) (a2_0 : Int) (a2_1 : Int) (a2_2 : Bool) (r : Bool) (w : World) (hT : Kp.Tab w) (h : impl_SigOk.f k a0_0 a0_1 a0_2 a1 a2_0 a2_1 a2_2 = some r) :
  Calls Tryd.prog 24 #[.agg #[.int .i64 a0_0, .int .i64 a0_1, .bool a0_2], .string a1, .agg #[.int .i64 a2_0, .int .i64 a2_1, .bool a2_2]] w fun e w' => e = .returned (.bool r) ∧ Below w.heap.size w w' := by
 have HT := Aside0.mk hT
 clear hT
 have hu23 := Tryd.underlying23
 have HB := Aside0.mk (Below.refl w.heap.size w)
 have H : (if a0_2 = true then (impl_SigOk.j0 k a1 true a0_0 a0_1 a0_2 a2_0 a2_1 a2_2) else (if a2_2 = true then (impl_SigOk.j0 k a1 true a0_0 a0_1 a0_2 a2_0 a2_1 a2_2) else ((impl_InGroup.f k a0_0 a0_1 a0_2).bind fun t701 => (if t701 = true then ((impl_InGroup.f k a2_0 a2_1 a2_2).bind fun t702 => (impl_SigOk.j0 k a1 (!t702) a0_0 a0_1 a0_2 a2_0 a2_1 a2_2)) else (impl_SigOk.j0 k a1 true a0_0 a0_1 a0_2 a2_0 a2_1 a2_2))))) = some r := h
 clear h
 have HC4 := Aside0.mk H
 clear H
 go_enter Tryd.func24, Tryd.ntmps24
 go_upto_region 1 with (first | ((with_reducible refine gate_dst (N := 3) rfl ?_); refine bE 3 #[.int .i64 a0_0, .int .i64 a0_1, .bool a0_2] 23 ?_; intro gb699 hg w5 hbox hb; have BK699 := Aside0.mk (hbox); have GW699 := bG HB hg; have GE699 := bG HB hg; replace HB := bS HB hb; clear hb hbox hg) | ((with_reducible refine gate_dst (N := 5) rfl ?_); refine bE 5 #[.int .i64 a2_0, .int .i64 a2_1, .bool a2_2] 23 ?_; intro gb700 hg w6 hbox hb; have BK700 := Aside0.mk (hbox); have GW700 := bG HB hg; have GE700 := bG HB hg; replace HB := bS HB hb; have NB699_700 := bL BK699 hg; have NB700_699 := bR BK699 hg; replace BK699 := bB BK699 hb; clear hb hbox hg))
 (try simp only [Act.put, List.setIfInBounds_toArray, List.set_cons_zero, List.set_cons_succ])
 go_cut [22] (fun v22 wc => ∃ (kq : Nat) (x22_3 : Bool), v22 = .bool x22_3 ∧ Aside0 (impl_SigOk.j0 kq a1 x22_3 a0_0 a0_1 a0_2 a2_0 a2_1 a2_2 = some r) ∧ Aside0 (kq ≤ k) ∧ Aside0 (wc.heap[gb699]? = some (.cells #[.int .i64 a0_0, .int .i64 a0_1, .bool a0_2] 23 (0, 0))) ∧ Aside0 (wc.heap[gb700]? = some (.cells #[.int .i64 a2_0, .int .i64 a2_1, .bool a2_2] 23 (0, 0))) ∧ Aside0 (Below w.heap.size w wc))
 case first =>
  have H := HC4.out
  clear HC4
  by_cases c7 : a0_2 = true
  ·subst c7
   rw [if_pos rfl] at H
   have H' := Aside0.mk H
   clear H
   have hnb8 := NB699_700.out
   have hnc8 := NB700_699.out
   obtain ⟨hcz9_0, hcz9_1, hcz9_2, hfz9_0, hfz9_1, hfz9_2⟩ := bK3 (w := w6) BK699
   go_wp2
   go_meet
   case rel => exact ⟨_, (true), rS, H', ⟨by first | omega | exact Nat.le_refl _⟩, ⟨bP BK699⟩, ⟨bP BK700⟩, ⟨bZ HB⟩⟩
  ·replace c7 := Bool.eq_false_iff.mpr c7
   subst c7
   rw [if_neg (show ¬ (false = true) by decide)] at H
   by_cases c10 : a2_2 = true
   ·subst c10
    rw [if_pos rfl] at H
    have H' := Aside0.mk H
    clear H
    have hnb11 := NB699_700.out
    have hnc11 := NB700_699.out
    obtain ⟨hcz12_0, hcz12_1, hcz12_2, hfz12_0, hfz12_1, hfz12_2⟩ := bK3 (w := w6) BK699
    obtain ⟨hcz13_0, hcz13_1, hcz13_2, hfz13_0, hfz13_1, hfz13_2⟩ := bK3 (w := w6) BK700
    go_wp2
    go_meet
    case rel => exact ⟨_, (true), rS, H', ⟨by first | omega | exact Nat.le_refl _⟩, ⟨bP BK699⟩, ⟨bP BK700⟩, ⟨bZ HB⟩⟩
   ·replace c10 := Bool.eq_false_iff.mpr c10
    subst c10
    rw [if_neg (show ¬ (false = true) by decide)] at H
    replace H := Option.bind_eq_some_iff.mp H
    obtain ⟨t701, A140, H⟩ := H
    have A14 := Aside0.mk A140
    clear A140
    by_cases c15 : t701 = true
    ·subst c15
     rw [if_pos rfl] at H
     replace H := Option.bind_eq_some_iff.mp H
     obtain ⟨t702, A160, H⟩ := H
     have A16 := Aside0.mk A160
     clear A160
     have H' := Aside0.mk H
     clear H
     have hnb17 := NB699_700.out
     have hnc17 := NB700_699.out
     obtain ⟨hcz18_0, hcz18_1, hcz18_2, hfz18_0, hfz18_1, hfz18_2⟩ := bK3 (w := w6) BK699
     obtain ⟨hcz19_0, hcz19_1, hcz19_2, hfz19_0, hfz19_1, hfz19_2⟩ := bK3 (w := w6) BK700
     go_wp2_with (first | (go_at_call 67; (with_reducible refine (impl_InGroup.calls k a0_0 a0_1 false true _ A14.out).mono ?_); rintro e w20 ⟨rfl, hb⟩; replace BK699 := bB BK699 hb; replace BK700 := bB BK700 hb; replace HB := bS HB hb; (try clear hb); obtain ⟨hcz21_0, hcz21_1, hcz21_2, hfz21_0, hfz21_1, hfz21_2⟩ := bK3 (w := w20) BK700) | (go_at_call 67; (with_reducible refine (impl_InGroup.calls k a2_0 a2_1 false t702 _ A16.out).mono ?_); rintro e w22 ⟨rfl, hb⟩; replace BK699 := bB BK699 hb; replace BK700 := bB BK700 hb; replace HB := bS HB hb; (try clear hb)))
     go_meet
     case rel => exact ⟨_, (!t702), rS, H', ⟨by first | omega | exact Nat.le_refl _⟩, ⟨bP BK699⟩, ⟨bP BK700⟩, ⟨bZ HB⟩⟩
    ·replace c15 := Bool.eq_false_iff.mpr c15
     subst c15
     rw [if_neg (show ¬ (false = true) by decide)] at H
     have H' := Aside0.mk H
     clear H
     have hnb23 := NB699_700.out
     have hnc23 := NB700_699.out
     obtain ⟨hcz24_0, hcz24_1, hcz24_2, hfz24_0, hfz24_1, hfz24_2⟩ := bK3 (w := w6) BK699
     obtain ⟨hcz25_0, hcz25_1, hcz25_2, hfz25_0, hfz25_1, hfz25_2⟩ := bK3 (w := w6) BK700
     go_wp2_with (first | (go_at_call 67; (with_reducible refine (impl_InGroup.calls k a0_0 a0_1 false false _ A14.out).mono ?_); rintro e w26 ⟨rfl, hb⟩; replace BK699 := bB BK699 hb; replace BK700 := bB BK700 hb; replace HB := bS HB hb; (try clear hb)))
     go_meet
     case rel => exact ⟨_, (true), rS, H', ⟨by first | omega | exact Nat.le_refl _⟩, ⟨bP BK699⟩, ⟨bP BK700⟩, ⟨bZ HB⟩⟩
 case rest =>
  clear HC4
  try clear c1
  try clear c2
  try clear p2
  try clear c7
  try clear c8
  try clear c10
  try clear c11
  try clear c15
  try clear c17
  try clear c23
  try clear c24
  try clear hcz12_0
  try clear hcz12_1
  try clear hcz12_2
  try clear hcz13_0
  try clear hcz13_1
  try clear hcz13_2
  try clear hcz18_0
  try clear hcz18_1
  try clear hcz18_2
  try clear hcz19_0
  try clear hcz19_1
  try clear hcz19_2
  try clear hcz21_0
  try clear hcz21_1
  try clear hcz21_2
  try clear hcz24_0
  try clear hcz24_1
  try clear hcz24_2
  try clear hcz25_0
  try clear hcz25_1
  try clear hcz25_2
  try clear hcz9_0
  try clear hcz9_1
  try clear hcz9_2
  try clear hfz12_0
  try clear hfz12_1
  try clear hfz12_2
  try clear hfz13_0
  try clear hfz13_1
  try clear hfz13_2
  try clear hfz18_0
  try clear hfz18_1
  try clear hfz18_2
  try clear hfz19_0
  try clear hfz19_1
  try clear hfz19_2
  try clear hfz21_0
  try clear hfz21_1
  try clear hfz21_2
  try clear hfz24_0
  try clear hfz24_1
  try clear hfz24_2
  try clear hfz25_0
  try clear hfz25_1
  try clear hfz25_2
  try clear hfz9_0
  try clear hfz9_1
  try clear hfz9_2
  obtain ⟨kq, x22_3, rfl, HA, HJ3, BK699, BK700, HB⟩ := hcut
  cases kq with
  | zero => exact absurd HA.out (by simp [impl_SigOk.j0])
  | succ kj3 =>
   have H := HA.out
   clear HA
   simp only [impl_SigOk.j0] at H
   by_cases c27 : x22_3 = true
   ·subst c27
    rw [if_pos rfl] at H
    obtain rfl := Option.some.inj H
    go_wp2
    go_ret
    exact ⟨rR, bZ HB⟩
   ·replace c27 := Bool.eq_false_iff.mpr c27
    subst c27
    rw [if_neg (show ¬ (false = true) by decide)] at H
    replace H := Option.bind_eq_some_iff.mp H
    obtain ⟨⟨t703, t704, t705⟩, A280, H⟩ := H
    have A28 := Aside0.mk A280
    clear A280
    replace H := Option.bind_eq_some_iff.mp H
    obtain ⟨⟨t706, t707⟩, A290, H⟩ := H
    have A29 := Aside0.mk A290
    clear A290
    replace H := Option.bind_eq_some_iff.mp H
    obtain ⟨⟨t708, t709, t710⟩, A300, H⟩ := H
    have A30 := Aside0.mk A300
    clear A300
    replace H := Option.bind_eq_some_iff.mp H
    obtain ⟨⟨t711, t712⟩, A310, H⟩ := H
    have A31 := Aside0.mk A310
    clear A310
    obtain rfl := Option.some.inj H
    try go_wp2
    replace BK699 := Aside0.mk (blk_drew BK699.out)
    replace BK700 := Aside0.mk (blk_drew BK700.out)
    replace HB := Aside0.mk (below_drew1 HB.out)
    refine start_ (n := 9) (S := fun w' => w'.cell? ⟨gb700, 0, none⟩ = some (.int .i64 a2_0) ∧ w'.cell? ⟨gb700, 1, none⟩ = some (.int .i64 a2_1) ∧ w'.cell? ⟨gb700, 2, none⟩ = some (.bool a2_2) ∧ w'.cell? ⟨gb699, 0, none⟩ = some (.int .i64 a0_0) ∧ w'.cell? ⟨gb699, 1, none⟩ = some (.int .i64 a0_1) ∧ w'.cell? ⟨gb699, 2, none⟩ = some (.bool a0_2)) (ds := []) #[false, false, false, false, false, false, false, false, false] (by kernel_rfl) rfl rfl ⟨bc BK700 0, bc BK700 1, bc BK700 2, bc BK699 0, bc BK699 1, bc BK699 2⟩ (fun hHeld => ?_); refine with_tabW impl_SigOk.tab3 impl_SigOk.bits3 (fun HT_ HW_ => ?_)
    generalize wc.drew = w32 at BK699 BK700 HB hHeld ⊢
    refine pI 3 (some 26) HT_.out ?_
    refine tI6 0 (some 23) HT_.out HW_.out hHeld ?_
    refine tI6 5 (some 28) HT_.out HW_.out hHeld ?_
    refine oI 1 (some 24) HT_.out (fun K hK => ?_)
    refine gO Tryd.func52 #[] ?_
    with_reducible refine (impl_Base.calls  t703 t704 t705 _ A28.out).mono ?_
    rintro e w33 ⟨rfl, hb⟩
    refine ⟨_, rfl, ?_⟩
    replace BK699 := bB BK699 hb
    replace BK700 := bB BK700 hb
    replace HB := bS HB hb
    (try clear hb)
    refine hK.out _ _ ⟨bc BK700 0, bc BK700 1, bc BK700 2, bc BK699 0, bc BK699 1, bc BK699 2⟩ (fun hHeld => ?_)
    clear hK K
    refine nO (some 24) ?_
    refine oI 2 (some 25) HT_.out (fun K hK => ?_)
    refine gO Tryd.func68 #[.agg #[.int .i64 a2_0, .int .i64 a2_1, .bool a2_2], .agg #[.int .i64 t703, .int .i64 t704, .bool t705]] ?_
    with_reducible refine (impl_Pairing.calls kj3 a2_0 a2_1 a2_2 t703 t704 t705 t706 t707 _ A29.out).mono ?_
    rintro e w34 ⟨rfl, hb⟩
    refine ⟨_, rfl, ?_⟩
    replace BK699 := bB BK699 hb
    replace BK700 := bB BK700 hb
    replace HB := bS HB hb
    (try clear hb)
    refine hK.out _ _ ⟨bc BK700 0, bc BK700 1, bc BK700 2, bc BK699 0, bc BK699 1, bc BK699 2⟩ (fun hHeld => ?_)
    clear hK K
    refine nO (some 25) ?_
    refine oI 4 (some 27) HT_.out (fun K hK => ?_)
    refine gO Tryd.func11 #[.string a1] ?_
    with_reducible refine (impl_HashPoint.calls kj3 a1 t708 t709 t710 _ (Kp.Tab.below HT.out (bZ HB)) A30.out).mono ?_
    rintro e w35 ⟨rfl, hb⟩
    refine ⟨_, rfl, ?_⟩
    replace BK699 := bB BK699 hb
    replace BK700 := bB BK700 hb
    replace HB := bS HB hb
    (try clear hb)
    refine hK.out _ _ ⟨bc BK700 0, bc BK700 1, bc BK700 2, bc BK699 0, bc BK699 1, bc BK699 2⟩ (fun hHeld => ?_)
    clear hK K
    refine nO (some 27) ?_
    refine oI 6 (some 29) HT_.out (fun K hK => ?_)
    refine gO Tryd.func68 #[.agg #[.int .i64 t708, .int .i64 t709, .bool t710], .agg #[.int .i64 a0_0, .int .i64 a0_1, .bool a0_2]] ?_
    with_reducible refine (impl_Pairing.calls kj3 t708 t709 t710 a0_0 a0_1 a0_2 t711 t712 _ A31.out).mono ?_
    rintro e w36 ⟨rfl, hb⟩
    refine ⟨_, rfl, ?_⟩
    replace BK699 := bB BK699 hb
    replace BK700 := bB BK700 hb
    replace HB := bS HB hb
    (try clear hb)
    refine hK.out _ _ ⟨bc BK700 0, bc BK700 1, bc BK700 2, bc BK699 0, bc BK699 1, bc BK699 2⟩ (fun hHeld => ?_)
    clear hK K
    refine nO (some 29) ?_
    refine pI 7 (some 30) HT_.out ?_
    refine pI 8 (some 6) HT_.out ?_
    refine done_ (done_of HT_.out (by kernel_rfl)) ?_
    try go_wp2
    go_ret
    exact ⟨rR, bZ HB⟩
end Go.Proofs.YtkdmplfldfagnaaDoor.Pf
end
section
namespace Go.Proofs.YtkdmplfldfagnaaDoor.Pf
open Go.RowKit Go.Proofs.YtkdmplfldfagnaaDoorW.PrintWords Go.Proofs.YtkdmplfldfagnaaDoorW.PrintLast Go.Proofs.YtkdmplfldfagnaaDoorW.PrintMore
attribute [local go_sem] max2_int min2_int max_two min_two max_three min_three max_four min_four   -- for this text's walks alone
set_option linter.unusedVariables false
set_option linter.unusedSimpArgs false
/-! ### impl_SumPoints: function 74 -/
def impl_SumPoints.l0 : Nat → List (S23) → Int → Int → Int → Int → Bool → Option (Int × Int × Bool)
 | 0, _, _, _, _, _, _ => none
 | k + 1, x7, x8, x9, x786000, x786001, x786002 => if x9 < x8 then (if 0 ≤ x9 then (if x9 < (x7.length : Int) then ((impl_PointAdd.f k x786000 x786001 x786002 ((rd_T23 x7 x9).f0) ((rd_T23 x7 x9).f1) ((rd_T23 x7 x9).f2)).bind fun bt788 => (impl_SumPoints.l0 k x7 x8 (wrap64 (x9 + 1)) bt788.1 bt788.2.1 bt788.2.2)) else (none)) else (none)) else (some (x786000, x786001, x786002))
def impl_SumPoints.f (k : Nat) (l0 : List (S23)) : Option (Int × Int × Bool) := impl_SumPoints.l0 k l0 (l0.length : Int) 0 0 0 true
theorem impl_SumPoints.mono_l : ∀ k, (∀ y0 y1 y2 y3 y4 y5, LeO (impl_SumPoints.l0 k y0 y1 y2 y3 y4 y5) (impl_SumPoints.l0 (k + 1) y0 y1 y2 y3 y4 y5))
 | 0 => fun _ _ _ _ _ _ r h => by simp [impl_SumPoints.l0] at h
 | k + 1 => by
  have ih0 := impl_SumPoints.mono_l k
  ·intro y0 y1 y2 y3 y4 y5
   unfold impl_SumPoints.l0
   repeat' first
   | (with_reducible exact ih0 _ _ _ _ _ _)
   | (with_reducible exact impl_PointAdd.mono _ _ _ _ _ _ _)
   | (with_reducible exact LeO.refl _)
   | (with_reducible exact LeO.none _)
   | (with_reducible refine LeO.ite ?_ ?_)
   | (with_reducible refine LeO.bind ?_ (fun _ => ?_))
   | exact ih0 _ _ _ _ _ _
   | exact impl_PointAdd.mono _ _ _ _ _ _ _
   | exact LeO.none _
   | refine LeO.ite ?_ ?_
   | refine LeO.bind ?_ (fun _ => ?_)
theorem impl_SumPoints.mono : ∀ a0 k, LeO (impl_SumPoints.f k a0) (impl_SumPoints.f (k + 1) a0) := by
 intro a0 k
 have ih0 := impl_SumPoints.mono_l k
 unfold impl_SumPoints.f
 repeat' first
   | (with_reducible exact ih0 _ _ _ _ _ _)
   | (with_reducible exact impl_PointAdd.mono _ _ _ _ _ _ _)
   | (with_reducible exact LeO.refl _)
   | (with_reducible exact LeO.none _)
   | (with_reducible refine LeO.ite ?_ ?_)
   | (with_reducible refine LeO.bind ?_ (fun _ => ?_))
   | exact ih0 _ _ _ _ _ _
   | exact impl_PointAdd.mono _ _ _ _ _ _ _
   | exact LeO.none _
   | refine LeO.ite ?_ ?_
   | refine LeO.bind ?_ (fun _ => ?_)
set_option maxHeartbeats 8000000 in
set_option maxRecDepth 100000 in
theorem impl_SumPoints.calls (k : Nat) (A0 : Option Addr) (c0 : Nat) (l0 : List (S23)) (r1 : Int) (r2 : Int) (r3 : Bool) (w : World) (hr0 : Kd.C k23 w A0 l0.length l0) (hc0 : l0.length ≤ c0) (h : impl_SumPoints.f k l0 = some (r1, r2, r3)) :
  Calls Tryd.prog 74 #[.slice A0 l0.length c0] w fun e w' => e = .returned (.agg #[.int .i64 r1, .int .i64 r2, .bool r3]) ∧ Below w.heap.size w w' := by
 have hu23 := Tryd.underlying23
 have HR0 := Aside0.mk hr0
 have HC0 := Aside0.mk hc0
 clear hr0 hc0
 have HB := Aside0.mk (Below.refl w.heap.size w)
 have H : (impl_SumPoints.l0 k l0 (l0.length : Int) 0 0 0 true) = some (r1, r2, r3) := h
 clear h
 have H' := Aside0.mk H
 clear H
 go_enter Tryd.func74, Tryd.ntmps74
 go_wp2_with (first | ((with_reducible refine gate_dst (N := 2) rfl ?_); refine bE 2 #[.int .i64 0, .int .i64 0, .bool false] 23 ?_; intro gb784 hg w2 hbox hb; have BK784 := Aside0.mk (hbox); have GW784 := bG HB hg; have GE784 := bG HB hg; replace HB := bS HB hb; clear hb hbox hg) | ((with_reducible refine gate_dst (N := 3) rfl ?_); refine bE 3 #[.int .i64 0, .int .i64 0, .bool false] 23 ?_; intro gb785 hg w3 hbox hb; have BK785 := Aside0.mk (hbox); have GW785 := bG HB hg; have GE785 := bG HB hg; replace HB := bS HB hb; have NB784_785 := bL BK784 hg; have NB785_784 := bR BK784 hg; replace BK784 := bB BK784 hb; clear hb hbox hg; have hnb4 := NB785_784.out; have hnc4 := NB784_785.out; obtain ⟨hcz5_0, hcz5_1, hcz5_2, hfz5_0, hfz5_1, hfz5_2⟩ := bK3 (w := w3) BK785))
 go_loopg [9] k (fun kq v9 w' => ∃ (x9_1 : Int) (x786000_1 : Int) (x786001_1 : Int) (x786002_1 : Bool), v9 = .int .i64 x9_1 ∧ Aside0 (impl_SumPoints.l0 kq l0 (l0.length : Int) x9_1 x786000_1 x786001_1 x786002_1 = some (r1, r2, r3)) ∧ Aside0 (kq ≤ k) ∧ Aside0 (w'.heap[gb784]? = some (.cells #[.int .i64 0, .int .i64 0, .bool false] 23 (0, 0))) ∧ Aside0 (w'.heap[gb785]? = some (.cells #[.int .i64 x786000_1, .int .i64 x786001_1, .bool x786002_1] 23 (0, 0))) ∧ Aside0 (Below w.heap.size w w'))
 case atStart => exact ⟨(0), (0), (0), (true), rS, H', ⟨Nat.le_refl _⟩, ⟨bP BK784⟩, ⟨bU BK785⟩, ⟨bZ HB⟩⟩
 case round =>
  clear H'
  try clear p2
  try clear c4
  try clear hcz5_0
  try clear hcz5_1
  try clear hcz5_2
  try clear hfz5_0
  try clear hfz5_1
  try clear hfz5_2
  obtain ⟨x9_1, x786000_1, x786001_1, x786002_1, rfl, HA, HK1, BK784, BK785, HB⟩ := hrel
  cases gk with
  | zero => exact absurd HA.out (by simp [impl_SumPoints.l0])
  | succ k1 =>
   have H := HA.out
   clear HA
   simp only [impl_SumPoints.l0] at H
   by_cases c6 : x9_1 < (l0.length : Int)
   ·rw [if_pos c6] at H
    have c6b0 : decide (x9_1 < (l0.length : Int)) = true := decide_eq_true c6
    clear c6
    by_cases c7 : 0 ≤ x9_1
    ·rw [if_pos c7] at H
     have c7b0 : decide (0 ≤ x9_1) = true := decide_eq_true c7
     clear c7
     by_cases c8 : x9_1 < (l0.length : Int)
     ·rw [if_pos c8] at H
      have c8b0 : decide (x9_1 < (l0.length : Int)) = true := decide_eq_true c8
      clear c8
      replace H := Option.bind_eq_some_iff.mp H
      obtain ⟨⟨t788, t789, t790⟩, A90, H⟩ := H
      have A9 := Aside0.mk A90
      clear A90
      have H' := Aside0.mk H
      clear H
      have p786 : 0 ≤ (x9_1 : Int) := of_decide_eq_true (by first | (with_reducible assumption) | assumption)
      have q786 : x9_1 < (l0.length : Int) := of_decide_eq_true (by first | (with_reducible assumption) | assumption)
      obtain ⟨ad786, e786, hx786_0, hx786_1, hx786_2⟩ := at_T23 HR0.out x9_1 p786 q786
      cases e786
      replace hx786_0 := (HB.out.cell (World.block_lt_of_cell? w _ hx786_0)).trans hx786_0
      replace hx786_1 := (HB.out.cell (World.block_lt_of_cell? w _ hx786_1)).trans hx786_1
      replace hx786_2 := (HB.out.cell (World.block_lt_of_cell? w _ hx786_2)).trans hx786_2
      replace p786 := eq_true p786
      replace q786 := eq_true q786
      go_wp2_with (first | ((with_reducible refine gate_dst (N := 5) rfl ?_); refine bE 5 #[.int .i64 0, .int .i64 0, .bool false] 23 ?_; intro gb787 hg w10 hbox hb; have BK787 := Aside0.mk (hbox); have GW787 := bG HB hg; have GE787 := bG HB hg; replace HB := bS HB hb; have NB784_787 := bL BK784 hg; have NB787_784 := bR BK784 hg; replace BK784 := bB BK784 hb; have NB785_787 := bL BK785 hg; have NB787_785 := bR BK785 hg; replace BK785 := bB BK785 hb; clear hb hbox hg; have hnb11 := NB787_784.out; have hnc11 := NB784_787.out; have hnb12 := NB787_785.out; have hnc12 := NB785_787.out; obtain ⟨hcz13_0, hcz13_1, hcz13_2, hfz13_0, hfz13_1, hfz13_2⟩ := bK3 (w := w10) BK787; have hnb14 := NB785_784.out; have hnc14 := NB784_785.out; obtain ⟨hcz15_0, hcz15_1, hcz15_2, hfz15_0, hfz15_1, hfz15_2⟩ := bK3 (w := w10) BK785) | ((with_reducible refine gate_callee (f := 59) rfl ?_); refine gL (some 15) Tryd.func59 #[.agg #[.int .i64 x786000_1, .int .i64 x786001_1, .bool x786002_1], .agg #[.int .i64 ((rd_T23 l0 x9_1).f0), .int .i64 ((rd_T23 l0 x9_1).f1), .bool ((rd_T23 l0 x9_1).f2)]] ?_; (with_reducible refine (impl_PointAdd.calls k1 x786000_1 x786001_1 x786002_1 ((rd_T23 l0 x9_1).f0) ((rd_T23 l0 x9_1).f1) ((rd_T23 l0 x9_1).f2) t788 t789 t790 _ A9.out).mono ?_); rintro e w16 ⟨rfl, hb⟩; refine ⟨_, rfl, ?_⟩; replace BK784 := bB BK784 hb; replace BK785 := bB BK785 hb; replace BK787 := bV 23 #[.int .i64 ((rd_T23 l0 x9_1).f0), .int .i64 ((rd_T23 l0 x9_1).f1), .bool ((rd_T23 l0 x9_1).f2)] BK787 hb; replace HB := bS HB hb; (try clear hb); obtain ⟨hcz17_0, hcz17_1, hcz17_2, hfz17_0, hfz17_1, hfz17_2⟩ := bK3 (w := w16) BK785))
      go_roundg k1
      case measure => have := HK1.out; omega
      case rel => exact ⟨(wrap64 (x9_1 + 1)), (t788), (t789), (t790), rS, H', ⟨by have := HK1.out; omega⟩, ⟨bP BK784⟩, ⟨bU BK785⟩, ⟨bZ HB⟩⟩
     ·rw [if_neg c8] at H
      exact absurd H (by simp)
    ·rw [if_neg c7] at H
     exact absurd H (by simp)
   ·rw [if_neg c6] at H
    have c6b0 : decide (x9_1 < (l0.length : Int)) = false := decide_eq_false c6
    clear c6
    simp only [Option.some.injEq, Prod.mk.injEq] at H
    obtain ⟨rfl, rfl, rfl⟩ := H
    have hnb18 := NB785_784.out
    have hnc18 := NB784_785.out
    obtain ⟨hcz19_0, hcz19_1, hcz19_2, hfz19_0, hfz19_1, hfz19_2⟩ := bK3 (w := wr) BK785
    obtain ⟨hcz20_0, hcz20_1, hcz20_2, hfz20_0, hfz20_1, hfz20_2⟩ := bK3 (w := wr) BK784
    go_wp2
    refine rC gb784 23 #[.int .i64 x786000_1, .int .i64 x786001_1, .bool x786002_1] (bU BK784) Tryd.underlying23 ?_
    exact ⟨rR, bZ HB⟩
/-! ### impl_AllSigOk: function 36 -/
def impl_AllSigOk.f (k : Nat) (l0 : List (S23)) (a1 : ByteArray) (a2_0 : Int) (a2_1 : Int) (a2_2 : Bool) : Option (Bool) := if (l0.length : Int) > 0 then ((impl_SumPoints.f k l0).bind fun bt841 => ((impl_SigOk.f k bt841.1 bt841.2.1 bt841.2.2 a1 a2_0 a2_1 a2_2).bind fun t844 => (some t844))) else (some false)
theorem impl_AllSigOk.mono : ∀ a0 a1 a2 a3 a4 k, LeO (impl_AllSigOk.f k a0 a1 a2 a3 a4) (impl_AllSigOk.f (k + 1) a0 a1 a2 a3 a4) := by
 intro a0 a1 a2 a3 a4 k
 unfold impl_AllSigOk.f
 repeat' first
   | (with_reducible exact impl_SigOk.mono _ _ _ _ _ _ _ _)
   | (with_reducible exact impl_SumPoints.mono _ _)
   | (with_reducible exact LeO.refl _)
   | (with_reducible exact LeO.none _)
   | (with_reducible refine LeO.ite ?_ ?_)
   | (with_reducible refine LeO.bind ?_ (fun _ => ?_))
   | exact impl_SigOk.mono _ _ _ _ _ _ _ _
   | exact impl_SumPoints.mono _ _
   | exact LeO.none _
   | refine LeO.ite ?_ ?_
   | refine LeO.bind ?_ (fun _ => ?_)
def impl_AllSigOk.T1 : Bool × List (List Nat × List Nat) := (true, [([], []), ([0], [0]), ([1], [1]), ([2], [2]), ([3], [3]), ([4, 3, 3], [3, 4]), ([3], [3]), ([3], [3]), ([5, 6, 7, 5, 3], [3, 5, 6, 7]), ([3, 8], [3, 8]), ([9, 8, 0, 1, 2, 3, 4, 5, 6, 7, 8, 9], [9])])
def impl_AllSigOk.B1 : List Nat := [0, 1, 3, 7, 15, 31, 15, 15, 255, 511, 1023]
theorem impl_AllSigOk.tab1 : rtab .any (opsOf Tryd.f36 1) = impl_AllSigOk.T1 := by kernel_rfl
theorem impl_AllSigOk.bits1 : waitsOk impl_AllSigOk.T1.2 impl_AllSigOk.B1 = true := by kernel_rfl
set_option maxHeartbeats 8000000 in
set_option maxRecDepth 100000 in
theorem impl_AllSigOk.calls (k : Nat) (A0 : Option Addr) (c0 : Nat) (l0 : List (S23)) (a1 : ByteArray) (a2_0 : Int) (a2_1 : Int) (a2_2 : Bool) (r : Bool) (w : World) (hr0 : Kd.C k23 w A0 l0.length l0) (hc0 : l0.length ≤ c0) (hT : Kp.Tab w) (h : impl_AllSigOk.f k l0 a1 a2_0 a2_1 a2_2 = some r) :
  Calls Tryd.prog 36 #[.slice A0 l0.length c0, .string a1, .agg #[.int .i64 a2_0, .int .i64 a2_1, .bool a2_2]] w fun e w' => e = .returned (.bool r) ∧ Below w.heap.size w w' := by
 have HT := Aside0.mk hT
 clear hT
 have hu23 := Tryd.underlying23
 have HR0 := Aside0.mk hr0
 have HC0 := Aside0.mk hc0
 clear hr0 hc0
 have HB := Aside0.mk (Below.refl w.heap.size w)
 have H : (if (l0.length : Int) > 0 then ((impl_SumPoints.f k l0).bind fun bt841 => ((impl_SigOk.f k bt841.1 bt841.2.1 bt841.2.2 a1 a2_0 a2_1 a2_2).bind fun t844 => (some t844))) else (some false)) = some r := h
 clear h
 by_cases c4 : (l0.length : Int) > 0
 ·rw [if_pos c4] at H
  have c4b0 : decide (0 < (l0.length : Int)) = true := decide_eq_true c4
  have c4b1 : decide (0 < l0.length) = true := decide_eq_true (by omega)
  clear c4
  replace H := Option.bind_eq_some_iff.mp H
  obtain ⟨⟨t841, t842, t843⟩, A50, H⟩ := H
  have A5 := Aside0.mk A50
  clear A50
  replace H := Option.bind_eq_some_iff.mp H
  obtain ⟨t844, A60, H⟩ := H
  have A6 := Aside0.mk A60
  clear A60
  obtain rfl := Option.some.inj H
  go_enter Tryd.func36, Tryd.ntmps36
  try go_wp2_with (first | ((with_reducible refine gate_dst (N := 5) rfl ?_); refine bE 5 #[.int .i64 a2_0, .int .i64 a2_1, .bool a2_2] 23 ?_; intro gb840 hg w7 hbox hb; have BK840 := Aside0.mk (hbox); have GW840 := bG HB hg; have GE840 := bG HB hg; replace HB := bS HB hb; clear hb hbox hg))
  replace BK840 := Aside0.mk (blk_drew BK840.out)
  replace HB := Aside0.mk (below_drew1 HB.out)
  refine start_ (n := 11) (S := fun w' => w'.cell? ⟨gb840, 0, none⟩ = some (.int .i64 a2_0) ∧ w'.cell? ⟨gb840, 1, none⟩ = some (.int .i64 a2_1) ∧ w'.cell? ⟨gb840, 2, none⟩ = some (.bool a2_2)) (ds := []) #[false, false, false, false, false, false, false, false, false, false, false] (by kernel_rfl) rfl rfl ⟨bc BK840 0, bc BK840 1, bc BK840 2⟩ (fun hHeld => ?_); refine with_tabW impl_AllSigOk.tab1 impl_AllSigOk.bits1 (fun HT_ HW_ => ?_)
  generalize w7.drew = w8 at BK840 HB hHeld ⊢
  refine pI 0 (some 7) HT_.out ?_
  refine pI 1 (some 8) HT_.out ?_
  refine pI 2 (some 9) HT_.out ?_
  refine pI 3 (some 10) HT_.out ?_
  refine pI 4 (some 11) HT_.out ?_
  refine pI 6 (some 13) HT_.out ?_
  refine tI3 7 (some 14) HT_.out HW_.out hHeld ?_
  refine oI 5 (some 12) HT_.out (fun K hK => ?_)
  refine gO Tryd.func74 #[.slice A0 l0.length c0] ?_
  with_reducible refine (impl_SumPoints.calls k _ _ l0 t841 t842 t843 _ ?side1 ?side2 A5.out).mono ?_
  (case side1 => exact cP (Kd.C_below HR0.out HB.out))
  (case side2 => exact HC0.out)
  rintro e w9 ⟨rfl, hb⟩
  refine ⟨_, rfl, ?_⟩
  replace BK840 := bB BK840 hb
  replace HB := bS HB hb
  (try clear hb)
  refine hK.out _ _ ⟨bc BK840 0, bc BK840 1, bc BK840 2⟩ (fun hHeld => ?_)
  clear hK K
  refine nO (some 12) ?_
  refine oI 8 (some 15) HT_.out (fun K hK => ?_)
  refine gO Tryd.func24 #[.agg #[.int .i64 t841, .int .i64 t842, .bool t843], .string a1, .agg #[.int .i64 a2_0, .int .i64 a2_1, .bool a2_2]] ?_
  with_reducible refine (impl_SigOk.calls k t841 t842 t843 a1 a2_0 a2_1 a2_2 t844 _ (Kp.Tab.below HT.out (bZ HB)) A6.out).mono ?_
  rintro e w10 ⟨rfl, hb⟩
  refine ⟨_, rfl, ?_⟩
  replace BK840 := bB BK840 hb
  replace HB := bS HB hb
  (try clear hb)
  refine hK.out _ _ ⟨bc BK840 0, bc BK840 1, bc BK840 2⟩ (fun hHeld => ?_)
  clear hK K
  refine nO (some 15) ?_
  refine pI 9 (some 16) HT_.out ?_
  refine pI 10 (some 6) HT_.out ?_
  refine done_ (done_of HT_.out (by kernel_rfl)) ?_
  try go_wp2
  go_ret
  exact ⟨rR, bZ HB⟩
 ·rw [if_neg c4] at H
  have c4b0 : decide (0 < (l0.length : Int)) = false := decide_eq_false c4
  have c4b1 : decide (0 < l0.length) = false := decide_eq_false (by omega)
  clear c4
  obtain rfl := Option.some.inj H
  go_enter Tryd.func36, Tryd.ntmps36
  try go_wp2_with (first | ((with_reducible refine gate_dst (N := 5) rfl ?_); refine bE 5 #[.int .i64 a2_0, .int .i64 a2_1, .bool a2_2] 23 ?_; intro gb840 hg w11 hbox hb; have BK840 := Aside0.mk (hbox); have GW840 := bG HB hg; have GE840 := bG HB hg; replace HB := bS HB hb; clear hb hbox hg))
  replace BK840 := Aside0.mk (blk_drew BK840.out)
  replace HB := Aside0.mk (below_drew1 HB.out)
  refine start_ (n := 11) (S := fun w' => True) (ds := []) #[false, false, false, false, false, false, false, false, false, false, false] (by kernel_rfl) rfl rfl trivial (fun hHeld => ?_); refine with_tabW impl_AllSigOk.tab1 impl_AllSigOk.bits1 (fun HT_ HW_ => ?_)
  generalize w11.drew = w12 at BK840 HB hHeld ⊢
  refine pI 0 (some 7) HT_.out ?_
  refine pI 1 (some 8) HT_.out ?_
  refine pI 2 (some 9) HT_.out ?_
  refine pI 3 (some 10) HT_.out ?_
  refine pure_ (i := 4) (N := some 11) (v := undef) (a' := ?_) #[true, true, true, true, true, false, false, false, false, false, false] rfl rfl (any_of HT_.out (by kernel_rfl)) (fun _ _ _ h => h) (Or.inr ⟨by rfl, rfl⟩) ?_ ?_
  rotate_left
  ·simp only [Act.put, List.setIfInBounds_toArray, List.set_cons_zero, List.set_cons_succ, i64_w, i32_w]
   rfl
  refine pure_ (i := 5) (N := some 12) (v := undef) (a' := ?_) #[true, true, true, true, true, true, false, false, false, false, false] rfl rfl (any_of HT_.out (by kernel_rfl)) (fun _ _ _ h => h) (Or.inr ⟨by rfl, rfl⟩) ?_ ?_
  rotate_left
  ·simp only [Act.put, List.setIfInBounds_toArray, List.set_cons_zero, List.set_cons_succ, i64_w, i32_w]
   rfl
  refine pure_ (i := 6) (N := some 13) (v := undef) (a' := ?_) #[true, true, true, true, true, true, true, false, false, false, false] rfl rfl (any_of HT_.out (by kernel_rfl)) (fun _ _ _ h => h) (Or.inr ⟨by rfl, rfl⟩) ?_ ?_
  rotate_left
  ·simp only [Act.put, List.setIfInBounds_toArray, List.set_cons_zero, List.set_cons_succ, i64_w, i32_w]
   rfl
  refine pure_ (i := 7) (N := some 14) (v := undef) (a' := ?_) #[true, true, true, true, true, true, true, true, false, false, false] rfl rfl (any_of HT_.out (by kernel_rfl)) (fun _ _ _ h => h) (Or.inr ⟨by rfl, rfl⟩) ?_ ?_
  rotate_left
  ·simp only [Act.put, List.setIfInBounds_toArray, List.set_cons_zero, List.set_cons_succ, i64_w, i32_w]
   rfl
  refine pure_ (i := 8) (N := some 15) (v := undef) (a' := ?_) #[true, true, true, true, true, true, true, true, true, false, false] rfl rfl (any_of HT_.out (by kernel_rfl)) (fun _ _ _ h => h) (Or.inr ⟨by rfl, rfl⟩) ?_ ?_
  rotate_left
  ·simp only [Act.put, List.setIfInBounds_toArray, List.set_cons_zero, List.set_cons_succ, i64_w, i32_w]
   rfl
  refine pI 9 (some 16) HT_.out ?_
  refine pI 10 (some 6) HT_.out ?_
  refine done_ (done_of HT_.out (by kernel_rfl)) ?_
  try go_wp2
  go_ret
  exact ⟨rR, bZ HB⟩
/-! ### spec_Base: function 46 -/
def spec_Base.f  : Option (Int × Int × Bool) := some (8445, 859, false)
set_option maxHeartbeats 8000000 in
set_option maxRecDepth 100000 in
theorem spec_Base.calls  (r1 : Int) (r2 : Int) (r3 : Bool) (w : World) (h : spec_Base.f  = some (r1, r2, r3)) :
  Calls Tryd.prog 46 #[] w fun e w' => e = .returned (.agg #[.int .i64 r1, .int .i64 r2, .bool r3]) ∧ Below w.heap.size w w' := by
 have hu23 := Tryd.underlying23
 have HB := Aside0.mk (Below.refl w.heap.size w)
 have H : (some (8445, 859, false)) = some (r1, r2, r3) := h
 clear h
 simp only [Option.some.injEq, Prod.mk.injEq] at H
 obtain ⟨rfl, rfl, rfl⟩ := H
 go_enter Tryd.func46, Tryd.ntmps46
 go_wp2_with (first | ((with_reducible refine gate_dst (N := 0) rfl ?_); refine bE 0 #[.int .i64 0, .int .i64 0, .bool false] 23 ?_; intro gb186 hg w1 hbox hb; have BK186 := Aside0.mk (hbox); have GW186 := bG HB hg; have GE186 := bG HB hg; replace HB := bS HB hb; clear hb hbox hg; obtain ⟨hcz2_0, hcz2_1, hcz2_2, hfz2_0, hfz2_1, hfz2_2⟩ := bK3 (w := w1) BK186))
 refine rC gb186 23 #[.int .i64 8445, .int .i64 859, .bool false] (bU BK186) Tryd.underlying23 ?_
 exact ⟨rR, bZ HB⟩
/-! ### spec_Digest: function 41 -/
def spec_Digest.f (a0 : ByteArray) : Option ByteArray := Kp.spec_Digest.f a0
theorem spec_Digest.calls (a0 : ByteArray) (r : ByteArray) (w : World) (h : spec_Digest.f a0 = some r) :
  Calls Tryd.prog 41 #[.string a0] w fun e w' => e = .returned (.string r) ∧ Below w.heap.size w w' :=
 Kp.spec_Digest.calls a0 r w h
/-! ### spec_FpOf: function 42 -/
def spec_FpOf.f (a0 : Int) : Option (Int) := if (Int.tmod a0 12107) < 0 then (some (wrap64 ((Int.tmod a0 12107) + 12107))) else (some (Int.tmod a0 12107))
set_option maxHeartbeats 8000000 in
set_option maxRecDepth 100000 in
theorem spec_FpOf.calls (a0 : Int) (r : Int) (w : World) (h : spec_FpOf.f a0 = some r) :
  Calls Tryd.prog 42 #[.int .i64 a0] w fun e w' => e = .returned (.int .i64 r) ∧ Drawn0 w w' := by
 have H : (if (Int.tmod a0 12107) < 0 then (some (wrap64 ((Int.tmod a0 12107) + 12107))) else (some (Int.tmod a0 12107))) = some r := h
 clear h
 by_cases c2 : (Int.tmod a0 12107) < 0
 ·rw [if_pos c2] at H
  have c2b0 : decide ((Int.tmod a0 12107) < 0) = true := decide_eq_true c2
  clear c2
  obtain rfl := Option.some.inj H
  go_enter Tryd.func42, Tryd.ntmps42
  go_wp2
  go_ret
  exact ⟨rS, rD⟩
 ·rw [if_neg c2] at H
  have c2b0 : decide ((Int.tmod a0 12107) < 0) = false := decide_eq_false c2
  clear c2
  obtain rfl := Option.some.inj H
  go_enter Tryd.func42, Tryd.ntmps42
  go_wp2
  go_ret
  exact ⟨rS, rD⟩
/-! ### spec_FpMul: function 84 -/
def spec_FpMul.f (a0 : Int) (a1 : Int) : Option (Int) := (spec_FpOf.f a0).bind fun t101 => ((spec_FpOf.f a1).bind fun t102 => ((spec_FpOf.f (wrap64 (t101 * t102))).bind fun t103 => (some t103)))
set_option maxHeartbeats 8000000 in
set_option maxRecDepth 100000 in
theorem spec_FpMul.calls (a0 : Int) (a1 : Int) (r : Int) (w : World) (h : spec_FpMul.f a0 a1 = some r) :
  Calls Tryd.prog 84 #[.int .i64 a0, .int .i64 a1] w fun e w' => e = .returned (.int .i64 r) ∧ Drawn0 w w' := by
 have H : ((spec_FpOf.f a0).bind fun t101 => ((spec_FpOf.f a1).bind fun t102 => ((spec_FpOf.f (wrap64 (t101 * t102))).bind fun t103 => (some t103)))) = some r := h
 clear h
 replace H := Option.bind_eq_some_iff.mp H
 obtain ⟨t101, A30, H⟩ := H
 have A3 := Aside0.mk A30
 clear A30
 replace H := Option.bind_eq_some_iff.mp H
 obtain ⟨t102, A40, H⟩ := H
 have A4 := Aside0.mk A40
 clear A40
 replace H := Option.bind_eq_some_iff.mp H
 obtain ⟨t103, A50, H⟩ := H
 have A5 := Aside0.mk A50
 clear A50
 obtain rfl := Option.some.inj H
 go_enter Tryd.func84, Tryd.ntmps84
 go_wp2_with (first | ((with_reducible refine gate_callee (f := 42) rfl ?_); refine gL (some 6) Tryd.func42 #[.int .i64 a0] ?_; (with_reducible refine (spec_FpOf.calls a0 t101 _ A3.out).mono ?_); rintro e w' ⟨rfl, ⟨nd, rfl⟩⟩; refine ⟨_, rfl, ?_⟩) | ((with_reducible refine gate_callee (f := 42) rfl ?_); refine gL (some 8) Tryd.func42 #[.int .i64 a1] ?_; (with_reducible refine (spec_FpOf.calls a1 t102 _ A4.out).mono ?_); rintro e w' ⟨rfl, ⟨nd, rfl⟩⟩; refine ⟨_, rfl, ?_⟩) | ((with_reducible refine gate_callee (f := 42) rfl ?_); refine gL (some 10) Tryd.func42 #[.int .i64 (wrap64 (t101 * t102))] ?_; (with_reducible refine (spec_FpOf.calls (wrap64 (t101 * t102)) t103 _ A5.out).mono ?_); rintro e w' ⟨rfl, ⟨nd, rfl⟩⟩; refine ⟨_, rfl, ?_⟩))
 go_ret
 exact ⟨rS, rD⟩
/-! ### spec_FpPow: function 83 -/
def spec_FpPow.l0 : Nat → Int → Int → Int → Option (Int)
 | 0, _, _, _ => none
 | k + 1, x1, x5, x6 => if x1 > 0 then (if (Int.tmod x1 2) = 1 then ((spec_FpMul.f x5 x6).bind fun t105 => ((spec_FpMul.f x6 x6).bind fun t106 => (spec_FpPow.l0 k (wrap64 (Int.tdiv x1 2)) t105 t106))) else ((spec_FpMul.f x6 x6).bind fun t107 => (spec_FpPow.l0 k (wrap64 (Int.tdiv x1 2)) x5 t107))) else (some x5)
def spec_FpPow.f (k : Nat) (a0 : Int) (a1 : Int) : Option (Int) := if a1 < 0 then (some 0) else ((spec_FpOf.f a0).bind fun t104 => (spec_FpPow.l0 k a1 1 t104))
theorem spec_FpPow.mono_l : ∀ k, (∀ y0 y1 y2, LeO (spec_FpPow.l0 k y0 y1 y2) (spec_FpPow.l0 (k + 1) y0 y1 y2))
 | 0 => fun _ _ _ r h => by simp [spec_FpPow.l0] at h
 | k + 1 => by
  have ih0 := spec_FpPow.mono_l k
  ·intro y0 y1 y2
   unfold spec_FpPow.l0
   repeat' first
   | (with_reducible exact ih0 _ _ _)
   | (with_reducible exact LeO.refl _)
   | (with_reducible exact LeO.none _)
   | (with_reducible refine LeO.ite ?_ ?_)
   | (with_reducible refine LeO.bind ?_ (fun _ => ?_))
   | exact ih0 _ _ _
   | exact LeO.none _
   | refine LeO.ite ?_ ?_
   | refine LeO.bind ?_ (fun _ => ?_)
theorem spec_FpPow.mono : ∀ a0 a1 k, LeO (spec_FpPow.f k a0 a1) (spec_FpPow.f (k + 1) a0 a1) := by
 intro a0 a1 k
 have ih0 := spec_FpPow.mono_l k
 unfold spec_FpPow.f
 repeat' first
   | (with_reducible exact ih0 _ _ _)
   | (with_reducible exact LeO.refl _)
   | (with_reducible exact LeO.none _)
   | (with_reducible refine LeO.ite ?_ ?_)
   | (with_reducible refine LeO.bind ?_ (fun _ => ?_))
   | exact ih0 _ _ _
   | exact LeO.none _
   | refine LeO.ite ?_ ?_
   | refine LeO.bind ?_ (fun _ => ?_)
set_option maxHeartbeats 8000000 in
set_option maxRecDepth 100000 in
theorem spec_FpPow.calls (k : Nat) (a0 : Int) (a1 : Int) (r : Int) (w : World) (h : spec_FpPow.f k a0 a1 = some r) :
  Calls Tryd.prog 83 #[.int .i64 a0, .int .i64 a1] w fun e w' => e = .returned (.int .i64 r) ∧ Drawn0 w w' := by
 have H : (if a1 < 0 then (some 0) else ((spec_FpOf.f a0).bind fun t104 => (spec_FpPow.l0 k a1 1 t104))) = some r := h
 clear h
 by_cases c3 : a1 < 0
 ·rw [if_pos c3] at H
  have c3b0 : decide (a1 < 0) = true := decide_eq_true c3
  clear c3
  obtain rfl := Option.some.inj H
  go_enter Tryd.func83, Tryd.ntmps83
  go_wp2
  go_ret
  exact ⟨rS, rD⟩
 ·rw [if_neg c3] at H
  have c3b0 : decide (a1 < 0) = false := decide_eq_false c3
  clear c3
  replace H := Option.bind_eq_some_iff.mp H
  obtain ⟨t104, A40, H⟩ := H
  have A4 := Aside0.mk A40
  clear A40
  have H' := Aside0.mk H
  clear H
  go_enter Tryd.func83, Tryd.ntmps83
  go_wp2_with (first | ((with_reducible refine gate_callee (f := 42) rfl ?_); refine gL (some 10) Tryd.func42 #[.int .i64 a0] ?_; (with_reducible refine (spec_FpOf.calls a0 t104 _ A4.out).mono ?_); rintro e w' ⟨rfl, ⟨nd, rfl⟩⟩; refine ⟨_, rfl, ?_⟩))
  go_loopg [1, 5, 6] k (fun kq v1 v5 v6 w' => ∃ (x1_1 : Int) (x5_1 : Int) (x6_1 : Int), v1 = .int .i64 x1_1 ∧ v5 = .int .i64 x5_1 ∧ v6 = .int .i64 x6_1 ∧ Aside0 (spec_FpPow.l0 kq x1_1 x5_1 x6_1 = some r) ∧ Aside0 (kq ≤ k) ∧ Drawn0 w w')
  case atStart => exact ⟨(a1), (1), (t104), rS, rS, rS, H', ⟨Nat.le_refl _⟩, by repeat (first | exact Drawn0.refl _ | apply Drawn0.step)⟩
  case round =>
   clear H'
   try clear p2
   try clear c3
   try clear c3b0
   try clear c4
   obtain ⟨x1_1, x5_1, x6_1, rfl, rfl, rfl, HA, HK1, ⟨m1, rfl⟩⟩ := hrel
   cases gk with
   | zero => exact absurd HA.out (by simp [spec_FpPow.l0])
   | succ k1 =>
    have H := HA.out
    clear HA
    simp only [spec_FpPow.l0] at H
    by_cases c5 : x1_1 > 0
    ·rw [if_pos c5] at H
     have c5b0 : decide (0 < x1_1) = true := decide_eq_true c5
     clear c5
     by_cases c6 : (Int.tmod x1_1 2) = 1
     ·rw [if_pos c6] at H
      have c6b0 : ((Int.tmod x1_1 2) == 1) = true := beq_iff_eq.mpr c6
      have c6b1 : ((Int.tmod x1_1 2) != 1) = false := bne_eq_false_iff_eq.mpr c6
      clear c6
      replace H := Option.bind_eq_some_iff.mp H
      obtain ⟨t105, A70, H⟩ := H
      have A7 := Aside0.mk A70
      clear A70
      replace H := Option.bind_eq_some_iff.mp H
      obtain ⟨t106, A80, H⟩ := H
      have A8 := Aside0.mk A80
      clear A80
      have H' := Aside0.mk H
      clear H
      go_wp2_with (first | ((with_reducible refine gate_callee (f := 84) rfl ?_); refine gL (some 18) Tryd.func84 #[.int .i64 x5_1, .int .i64 x6_1] ?_; (with_reducible refine (spec_FpMul.calls x5_1 x6_1 t105 _ A7.out).mono ?_); rintro e w' ⟨rfl, ⟨nd, rfl⟩⟩; refine ⟨_, rfl, ?_⟩) | ((with_reducible refine gate_callee (f := 84) rfl ?_); refine gL (some 21) Tryd.func84 #[.int .i64 x6_1, .int .i64 x6_1] ?_; (with_reducible refine (spec_FpMul.calls x6_1 x6_1 t106 _ A8.out).mono ?_); rintro e w' ⟨rfl, ⟨nd, rfl⟩⟩; refine ⟨_, rfl, ?_⟩))
      go_roundg k1
      case measure => have := HK1.out; omega
      case rel => exact ⟨(wrap64 (Int.tdiv x1_1 2)), (t105), (t106), rS, rS, rS, H', ⟨by have := HK1.out; omega⟩, by repeat (first | exact Drawn0.refl _ | apply Drawn0.step)⟩
     ·rw [if_neg c6] at H
      have c6b0 : ((Int.tmod x1_1 2) == 1) = false := beq_eq_false_iff_ne.mpr c6
      have c6b1 : ((Int.tmod x1_1 2) != 1) = true := bne_iff_ne.mpr c6
      replace H := Option.bind_eq_some_iff.mp H
      obtain ⟨t107, A90, H⟩ := H
      have A9 := Aside0.mk A90
      clear A90
      have H' := Aside0.mk H
      clear H
      go_wp2_with (first | ((with_reducible refine gate_callee (f := 84) rfl ?_); refine gL (some 21) Tryd.func84 #[.int .i64 x6_1, .int .i64 x6_1] ?_; (with_reducible refine (spec_FpMul.calls x6_1 x6_1 t107 _ A9.out).mono ?_); rintro e w' ⟨rfl, ⟨nd, rfl⟩⟩; refine ⟨_, rfl, ?_⟩))
      go_roundg k1
      case measure => have := HK1.out; omega
      case rel => exact ⟨(wrap64 (Int.tdiv x1_1 2)), (x5_1), (t107), rS, rS, rS, H', ⟨by have := HK1.out; omega⟩, by repeat (first | exact Drawn0.refl _ | apply Drawn0.step)⟩
    ·rw [if_neg c5] at H
     have c5b0 : decide (0 < x1_1) = false := decide_eq_false c5
     clear c5
     obtain rfl := Option.some.inj H
     go_wp2
     go_ret
     exact ⟨rS, rD⟩
/-! ### spec_FpSub: function 85 -/
def spec_FpSub.f (a0 : Int) (a1 : Int) : Option (Int) := (spec_FpOf.f a0).bind fun t108 => ((spec_FpOf.f a1).bind fun t109 => ((spec_FpOf.f (wrap64 (t108 - t109))).bind fun t110 => (some t110)))
set_option maxHeartbeats 8000000 in
set_option maxRecDepth 100000 in
theorem spec_FpSub.calls (a0 : Int) (a1 : Int) (r : Int) (w : World) (h : spec_FpSub.f a0 a1 = some r) :
  Calls Tryd.prog 85 #[.int .i64 a0, .int .i64 a1] w fun e w' => e = .returned (.int .i64 r) ∧ Drawn0 w w' := by
 have H : ((spec_FpOf.f a0).bind fun t108 => ((spec_FpOf.f a1).bind fun t109 => ((spec_FpOf.f (wrap64 (t108 - t109))).bind fun t110 => (some t110)))) = some r := h
 clear h
 replace H := Option.bind_eq_some_iff.mp H
 obtain ⟨t108, A30, H⟩ := H
 have A3 := Aside0.mk A30
 clear A30
 replace H := Option.bind_eq_some_iff.mp H
 obtain ⟨t109, A40, H⟩ := H
 have A4 := Aside0.mk A40
 clear A40
 replace H := Option.bind_eq_some_iff.mp H
 obtain ⟨t110, A50, H⟩ := H
 have A5 := Aside0.mk A50
 clear A50
 obtain rfl := Option.some.inj H
 go_enter Tryd.func85, Tryd.ntmps85
 go_wp2_with (first | ((with_reducible refine gate_callee (f := 42) rfl ?_); refine gL (some 6) Tryd.func42 #[.int .i64 a0] ?_; (with_reducible refine (spec_FpOf.calls a0 t108 _ A3.out).mono ?_); rintro e w' ⟨rfl, ⟨nd, rfl⟩⟩; refine ⟨_, rfl, ?_⟩) | ((with_reducible refine gate_callee (f := 42) rfl ?_); refine gL (some 8) Tryd.func42 #[.int .i64 a1] ?_; (with_reducible refine (spec_FpOf.calls a1 t109 _ A4.out).mono ?_); rintro e w' ⟨rfl, ⟨nd, rfl⟩⟩; refine ⟨_, rfl, ?_⟩) | ((with_reducible refine gate_callee (f := 42) rfl ?_); refine gL (some 10) Tryd.func42 #[.int .i64 (wrap64 (t108 - t109))] ?_; (with_reducible refine (spec_FpOf.calls (wrap64 (t108 - t109)) t110 _ A5.out).mono ?_); rintro e w' ⟨rfl, ⟨nd, rfl⟩⟩; refine ⟨_, rfl, ?_⟩))
 go_ret
 exact ⟨rS, rD⟩
/-! ### spec_FpRoot: function 43 -/
def spec_FpRoot.f (k : Nat) (a0 : Int) : Option (Int × Bool) := (spec_FpPow.f k a0 3027).bind fun t111 => ((spec_FpMul.f t111 t111).bind fun t112 => ((spec_FpOf.f a0).bind fun t113 => (if t112 = t113 then ((spec_FpSub.f 0 t111).bind fun t114 => (if t114 < t111 then ((spec_FpSub.f 0 t111).bind fun t115 => (some (t115, true))) else (some (t111, true)))) else (some (0, false)))))
theorem spec_FpRoot.mono : ∀ a0 k, LeO (spec_FpRoot.f k a0) (spec_FpRoot.f (k + 1) a0) := by
 intro a0 k
 unfold spec_FpRoot.f
 repeat' first
   | (with_reducible exact spec_FpPow.mono _ _ _)
   | (with_reducible exact LeO.refl _)
   | (with_reducible exact LeO.none _)
   | (with_reducible refine LeO.ite ?_ ?_)
   | (with_reducible refine LeO.bind ?_ (fun _ => ?_))
   | exact spec_FpPow.mono _ _ _
   | exact LeO.none _
   | refine LeO.ite ?_ ?_
   | refine LeO.bind ?_ (fun _ => ?_)
set_option maxHeartbeats 8000000 in
set_option maxRecDepth 100000 in
theorem spec_FpRoot.calls (k : Nat) (a0 : Int) (r1 : Int) (r2 : Bool) (w : World) (h : spec_FpRoot.f k a0 = some (r1, r2)) :
  Calls Tryd.prog 43 #[.int .i64 a0] w fun e w' => e = .returned (.tuple #[.int .i64 r1, .bool r2]) ∧ Drawn0 w w' := by
 have H : ((spec_FpPow.f k a0 3027).bind fun t111 => ((spec_FpMul.f t111 t111).bind fun t112 => ((spec_FpOf.f a0).bind fun t113 => (if t112 = t113 then ((spec_FpSub.f 0 t111).bind fun t114 => (if t114 < t111 then ((spec_FpSub.f 0 t111).bind fun t115 => (some (t115, true))) else (some (t111, true)))) else (some (0, false)))))) = some (r1, r2) := h
 clear h
 replace H := Option.bind_eq_some_iff.mp H
 obtain ⟨t111, A20, H⟩ := H
 have A2 := Aside0.mk A20
 clear A20
 replace H := Option.bind_eq_some_iff.mp H
 obtain ⟨t112, A30, H⟩ := H
 have A3 := Aside0.mk A30
 clear A30
 replace H := Option.bind_eq_some_iff.mp H
 obtain ⟨t113, A40, H⟩ := H
 have A4 := Aside0.mk A40
 clear A40
 by_cases c5 : t112 = t113
 ·rw [if_pos c5] at H
  have c5b0 : (t112 == t113) = true := beq_iff_eq.mpr c5
  have c5b1 : (t112 != t113) = false := bne_eq_false_iff_eq.mpr c5
  clear c5
  replace H := Option.bind_eq_some_iff.mp H
  obtain ⟨t114, A60, H⟩ := H
  have A6 := Aside0.mk A60
  clear A60
  by_cases c7 : t114 < t111
  ·rw [if_pos c7] at H
   have c7b0 : decide (t114 < t111) = true := decide_eq_true c7
   clear c7
   replace H := Option.bind_eq_some_iff.mp H
   obtain ⟨t115, A80, H⟩ := H
   have A8 := Aside0.mk A80
   clear A80
   have et115_ : t114 = t115 := Option.some.inj (A6.out.symm.trans A8.out)
   subst et115_
   simp only [Option.some.injEq, Prod.mk.injEq] at H
   obtain ⟨rfl, rfl⟩ := H
   go_enter Tryd.func43, Tryd.ntmps43
   go_wp2_with (first | ((with_reducible refine gate_callee (f := 83) rfl ?_); refine gL (some 6) Tryd.func83 #[.int .i64 a0, .int .i64 3027] ?_; (with_reducible refine (spec_FpPow.calls k a0 3027 t111 _ A2.out).mono ?_); rintro e w' ⟨rfl, ⟨nd, rfl⟩⟩; refine ⟨_, rfl, ?_⟩) | ((with_reducible refine gate_callee (f := 84) rfl ?_); refine gL (some 9) Tryd.func84 #[.int .i64 t111, .int .i64 t111] ?_; (with_reducible refine (spec_FpMul.calls t111 t111 t112 _ A3.out).mono ?_); rintro e w' ⟨rfl, ⟨nd, rfl⟩⟩; refine ⟨_, rfl, ?_⟩) | ((with_reducible refine gate_callee (f := 42) rfl ?_); refine gL (some 11) Tryd.func42 #[.int .i64 a0] ?_; (with_reducible refine (spec_FpOf.calls a0 t113 _ A4.out).mono ?_); rintro e w' ⟨rfl, ⟨nd, rfl⟩⟩; refine ⟨_, rfl, ?_⟩) | ((with_reducible refine gate_callee (f := 85) rfl ?_); refine gL (some 14) Tryd.func85 #[.int .i64 0, .int .i64 t111] ?_; (with_reducible refine (spec_FpSub.calls 0 t111 t114 _ A6.out).mono ?_); rintro e w' ⟨rfl, ⟨nd, rfl⟩⟩; refine ⟨_, rfl, ?_⟩) | ((with_reducible refine gate_callee (f := 85) rfl ?_); refine gL (some 18) Tryd.func85 #[.int .i64 0, .int .i64 t111] ?_; (with_reducible refine (spec_FpSub.calls 0 t111 t114 _ A8.out).mono ?_); rintro e w' ⟨rfl, ⟨nd, rfl⟩⟩; refine ⟨_, rfl, ?_⟩))
   go_ret2
   exact ⟨rS, rD⟩
  ·rw [if_neg c7] at H
   have c7b0 : decide (t114 < t111) = false := decide_eq_false c7
   clear c7
   simp only [Option.some.injEq, Prod.mk.injEq] at H
   obtain ⟨rfl, rfl⟩ := H
   go_enter Tryd.func43, Tryd.ntmps43
   go_wp2_with (first | ((with_reducible refine gate_callee (f := 83) rfl ?_); refine gL (some 6) Tryd.func83 #[.int .i64 a0, .int .i64 3027] ?_; (with_reducible refine (spec_FpPow.calls k a0 3027 t111 _ A2.out).mono ?_); rintro e w' ⟨rfl, ⟨nd, rfl⟩⟩; refine ⟨_, rfl, ?_⟩) | ((with_reducible refine gate_callee (f := 84) rfl ?_); refine gL (some 9) Tryd.func84 #[.int .i64 t111, .int .i64 t111] ?_; (with_reducible refine (spec_FpMul.calls t111 t111 t112 _ A3.out).mono ?_); rintro e w' ⟨rfl, ⟨nd, rfl⟩⟩; refine ⟨_, rfl, ?_⟩) | ((with_reducible refine gate_callee (f := 42) rfl ?_); refine gL (some 11) Tryd.func42 #[.int .i64 a0] ?_; (with_reducible refine (spec_FpOf.calls a0 t113 _ A4.out).mono ?_); rintro e w' ⟨rfl, ⟨nd, rfl⟩⟩; refine ⟨_, rfl, ?_⟩) | ((with_reducible refine gate_callee (f := 85) rfl ?_); refine gL (some 14) Tryd.func85 #[.int .i64 0, .int .i64 t111] ?_; (with_reducible refine (spec_FpSub.calls 0 t111 t114 _ A6.out).mono ?_); rintro e w' ⟨rfl, ⟨nd, rfl⟩⟩; refine ⟨_, rfl, ?_⟩))
   go_ret2
   exact ⟨rS, rD⟩
 ·rw [if_neg c5] at H
  have c5b0 : (t112 == t113) = false := beq_eq_false_iff_ne.mpr c5
  have c5b1 : (t112 != t113) = true := bne_iff_ne.mpr c5
  simp only [Option.some.injEq, Prod.mk.injEq] at H
  obtain ⟨rfl, rfl⟩ := H
  go_enter Tryd.func43, Tryd.ntmps43
  go_wp2_with (first | ((with_reducible refine gate_callee (f := 83) rfl ?_); refine gL (some 6) Tryd.func83 #[.int .i64 a0, .int .i64 3027] ?_; (with_reducible refine (spec_FpPow.calls k a0 3027 t111 _ A2.out).mono ?_); rintro e w' ⟨rfl, ⟨nd, rfl⟩⟩; refine ⟨_, rfl, ?_⟩) | ((with_reducible refine gate_callee (f := 84) rfl ?_); refine gL (some 9) Tryd.func84 #[.int .i64 t111, .int .i64 t111] ?_; (with_reducible refine (spec_FpMul.calls t111 t111 t112 _ A3.out).mono ?_); rintro e w' ⟨rfl, ⟨nd, rfl⟩⟩; refine ⟨_, rfl, ?_⟩) | ((with_reducible refine gate_callee (f := 42) rfl ?_); refine gL (some 11) Tryd.func42 #[.int .i64 a0] ?_; (with_reducible refine (spec_FpOf.calls a0 t113 _ A4.out).mono ?_); rintro e w' ⟨rfl, ⟨nd, rfl⟩⟩; refine ⟨_, rfl, ?_⟩))
  go_ret2
  exact ⟨rS, rD⟩
/-! ### spec_FpAdd: function 86 -/
def spec_FpAdd.f (a0 : Int) (a1 : Int) : Option (Int) := (spec_FpOf.f a0).bind fun t116 => ((spec_FpOf.f a1).bind fun t117 => ((spec_FpOf.f (wrap64 (t116 + t117))).bind fun t118 => (some t118)))
set_option maxHeartbeats 8000000 in
set_option maxRecDepth 100000 in
theorem spec_FpAdd.calls (a0 : Int) (a1 : Int) (r : Int) (w : World) (h : spec_FpAdd.f a0 a1 = some r) :
  Calls Tryd.prog 86 #[.int .i64 a0, .int .i64 a1] w fun e w' => e = .returned (.int .i64 r) ∧ Drawn0 w w' := by
 have H : ((spec_FpOf.f a0).bind fun t116 => ((spec_FpOf.f a1).bind fun t117 => ((spec_FpOf.f (wrap64 (t116 + t117))).bind fun t118 => (some t118)))) = some r := h
 clear h
 replace H := Option.bind_eq_some_iff.mp H
 obtain ⟨t116, A30, H⟩ := H
 have A3 := Aside0.mk A30
 clear A30
 replace H := Option.bind_eq_some_iff.mp H
 obtain ⟨t117, A40, H⟩ := H
 have A4 := Aside0.mk A40
 clear A40
 replace H := Option.bind_eq_some_iff.mp H
 obtain ⟨t118, A50, H⟩ := H
 have A5 := Aside0.mk A50
 clear A50
 obtain rfl := Option.some.inj H
 go_enter Tryd.func86, Tryd.ntmps86
 go_wp2_with (first | ((with_reducible refine gate_callee (f := 42) rfl ?_); refine gL (some 6) Tryd.func42 #[.int .i64 a0] ?_; (with_reducible refine (spec_FpOf.calls a0 t116 _ A3.out).mono ?_); rintro e w' ⟨rfl, ⟨nd, rfl⟩⟩; refine ⟨_, rfl, ?_⟩) | ((with_reducible refine gate_callee (f := 42) rfl ?_); refine gL (some 8) Tryd.func42 #[.int .i64 a1] ?_; (with_reducible refine (spec_FpOf.calls a1 t117 _ A4.out).mono ?_); rintro e w' ⟨rfl, ⟨nd, rfl⟩⟩; refine ⟨_, rfl, ?_⟩) | ((with_reducible refine gate_callee (f := 42) rfl ?_); refine gL (some 10) Tryd.func42 #[.int .i64 (wrap64 (t116 + t117))] ?_; (with_reducible refine (spec_FpOf.calls (wrap64 (t116 + t117)) t118 _ A5.out).mono ?_); rintro e w' ⟨rfl, ⟨nd, rfl⟩⟩; refine ⟨_, rfl, ?_⟩))
 go_ret
 exact ⟨rS, rD⟩
/-! ### spec_l07Right: function 44 -/
def spec_l07Right.f (a0 : Int) : Option (Int) := (spec_FpMul.f a0 a0).bind fun t119 => ((spec_FpMul.f t119 a0).bind fun t120 => ((spec_FpAdd.f t120 a0).bind fun t121 => (some t121)))
set_option maxHeartbeats 8000000 in
set_option maxRecDepth 100000 in
theorem spec_l07Right.calls (a0 : Int) (r : Int) (w : World) (h : spec_l07Right.f a0 = some r) :
  Calls Tryd.prog 44 #[.int .i64 a0] w fun e w' => e = .returned (.int .i64 r) ∧ Drawn0 w w' := by
 have H : ((spec_FpMul.f a0 a0).bind fun t119 => ((spec_FpMul.f t119 a0).bind fun t120 => ((spec_FpAdd.f t120 a0).bind fun t121 => (some t121)))) = some r := h
 clear h
 replace H := Option.bind_eq_some_iff.mp H
 obtain ⟨t119, A20, H⟩ := H
 have A2 := Aside0.mk A20
 clear A20
 replace H := Option.bind_eq_some_iff.mp H
 obtain ⟨t120, A30, H⟩ := H
 have A3 := Aside0.mk A30
 clear A30
 replace H := Option.bind_eq_some_iff.mp H
 obtain ⟨t121, A40, H⟩ := H
 have A4 := Aside0.mk A40
 clear A40
 obtain rfl := Option.some.inj H
 go_enter Tryd.func44, Tryd.ntmps44
 go_wp2_with (first | ((with_reducible refine gate_callee (f := 84) rfl ?_); refine gL (some 5) Tryd.func84 #[.int .i64 a0, .int .i64 a0] ?_; (with_reducible refine (spec_FpMul.calls a0 a0 t119 _ A2.out).mono ?_); rintro e w' ⟨rfl, ⟨nd, rfl⟩⟩; refine ⟨_, rfl, ?_⟩) | ((with_reducible refine gate_callee (f := 84) rfl ?_); refine gL (some 7) Tryd.func84 #[.int .i64 t119, .int .i64 a0] ?_; (with_reducible refine (spec_FpMul.calls t119 a0 t120 _ A3.out).mono ?_); rintro e w' ⟨rfl, ⟨nd, rfl⟩⟩; refine ⟨_, rfl, ?_⟩) | ((with_reducible refine gate_callee (f := 86) rfl ?_); refine gL (some 9) Tryd.func86 #[.int .i64 t120, .int .i64 a0] ?_; (with_reducible refine (spec_FpAdd.calls t120 a0 t121 _ A4.out).mono ?_); rintro e w' ⟨rfl, ⟨nd, rfl⟩⟩; refine ⟨_, rfl, ?_⟩))
 go_ret
 exact ⟨rS, rD⟩
/-! ### spec_l07Zero: function 56 -/
def spec_l07Zero.f  : Option (Int × Int × Bool) := some (0, 0, true)
set_option maxHeartbeats 8000000 in
set_option maxRecDepth 100000 in
theorem spec_l07Zero.calls  (r1 : Int) (r2 : Int) (r3 : Bool) (w : World) (h : spec_l07Zero.f  = some (r1, r2, r3)) :
  Calls Tryd.prog 56 #[] w fun e w' => e = .returned (.agg #[.int .i64 r1, .int .i64 r2, .bool r3]) ∧ Below w.heap.size w w' := by
 have hu23 := Tryd.underlying23
 have HB := Aside0.mk (Below.refl w.heap.size w)
 have H : (some (0, 0, true)) = some (r1, r2, r3) := h
 clear h
 simp only [Option.some.injEq, Prod.mk.injEq] at H
 obtain ⟨rfl, rfl, rfl⟩ := H
 go_enter Tryd.func56, Tryd.ntmps56
 go_wp2_with (first | ((with_reducible refine gate_dst (N := 0) rfl ?_); refine bE 0 #[.int .i64 0, .int .i64 0, .bool false] 23 ?_; intro gb122 hg w1 hbox hb; have BK122 := Aside0.mk (hbox); have GW122 := bG HB hg; have GE122 := bG HB hg; replace HB := bS HB hb; clear hb hbox hg; obtain ⟨hcz2_0, hcz2_1, hcz2_2, hfz2_0, hfz2_1, hfz2_2⟩ := bK3 (w := w1) BK122))
 refine rC gb122 23 #[.int .i64 0, .int .i64 0, .bool true] (bU BK122) Tryd.underlying23 ?_
 exact ⟨rR, bZ HB⟩
/-! ### spec_l01In: function 55 -/
def spec_l01In.f (a0 : Int) (a1 : Int) (a2 : Int) : Option (Bool) := if a0 ≥ a1 then (some (decide (a0 ≤ a2))) else (some false)
set_option maxHeartbeats 8000000 in
set_option maxRecDepth 100000 in
theorem spec_l01In.calls (a0 : Int) (a1 : Int) (a2 : Int) (r : Bool) (w : World) (h : spec_l01In.f a0 a1 a2 = some r) :
  Calls Tryd.prog 55 #[.int .i64 a0, .int .i64 a1, .int .i64 a2] w fun e w' => e = .returned (.bool r) ∧ Drawn0 w w' := by
 have H : (if a0 ≥ a1 then (some (decide (a0 ≤ a2))) else (some false)) = some r := h
 clear h
 by_cases c4 : a0 ≥ a1
 ·rw [if_pos c4] at H
  have c4b0 : decide (a1 ≤ a0) = true := decide_eq_true c4
  clear c4
  obtain rfl := Option.some.inj H
  go_enter Tryd.func55, Tryd.ntmps55
  go_wp2
  go_ret
  exact ⟨rS, rD⟩
 ·rw [if_neg c4] at H
  have c4b0 : decide (a1 ≤ a0) = false := decide_eq_false c4
  clear c4
  obtain rfl := Option.some.inj H
  go_enter Tryd.func55, Tryd.ntmps55
  go_wp2
  go_ret
  exact ⟨rS, rD⟩
/-! ### spec_FpOk: function 119 -/
def spec_FpOk.f (a0 : Int) : Option (Bool) := (spec_l01In.f a0 0 12106).bind fun t123 => (some t123)
set_option maxHeartbeats 8000000 in
set_option maxRecDepth 100000 in
theorem spec_FpOk.calls (a0 : Int) (r : Bool) (w : World) (h : spec_FpOk.f a0 = some r) :
  Calls Tryd.prog 119 #[.int .i64 a0] w fun e w' => e = .returned (.bool r) ∧ Drawn0 w w' := by
 have H : ((spec_l01In.f a0 0 12106).bind fun t123 => (some t123)) = some r := h
 clear h
 replace H := Option.bind_eq_some_iff.mp H
 obtain ⟨t123, A20, H⟩ := H
 have A2 := Aside0.mk A20
 clear A20
 obtain rfl := Option.some.inj H
 go_enter Tryd.func119, Tryd.ntmps119
 go_wp2_with (first | ((with_reducible refine gate_callee (f := 55) rfl ?_); refine gL (some 4) Tryd.func55 #[.int .i64 a0, .int .i64 0, .int .i64 12106] ?_; (with_reducible refine (spec_l01In.calls a0 0 12106 t123 _ A2.out).mono ?_); rintro e w' ⟨rfl, ⟨nd, rfl⟩⟩; refine ⟨_, rfl, ?_⟩))
 go_ret
 exact ⟨rS, rD⟩
/-! ### spec_PointOk: function 87 -/
def spec_PointOk.f (a0_0 : Int) (a0_1 : Int) (a0_2 : Bool) : Option (Bool) := if a0_2 = true then (if a0_0 = 0 then (some (a0_1 == 0)) else (some false)) else ((spec_FpOk.f a0_0).bind fun t125 => (if t125 = true then ((spec_FpOk.f a0_1).bind fun t126 => (if t126 = true then ((spec_FpMul.f a0_1 a0_1).bind fun t127 => ((spec_l07Right.f a0_0).bind fun t128 => (some (t127 == t128)))) else (some false))) else (some false)))
set_option maxHeartbeats 8000000 in
set_option maxRecDepth 100000 in
theorem spec_PointOk.calls (a0_0 : Int) (a0_1 : Int) (a0_2 : Bool) (r : Bool) (w : World) (h : spec_PointOk.f a0_0 a0_1 a0_2 = some r) :
  Calls Tryd.prog 87 #[.agg #[.int .i64 a0_0, .int .i64 a0_1, .bool a0_2]] w fun e w' => e = .returned (.bool r) ∧ Below w.heap.size w w' := by
 have hu23 := Tryd.underlying23
 have HB := Aside0.mk (Below.refl w.heap.size w)
 have H : (if a0_2 = true then (if a0_0 = 0 then (some (a0_1 == 0)) else (some false)) else ((spec_FpOk.f a0_0).bind fun t125 => (if t125 = true then ((spec_FpOk.f a0_1).bind fun t126 => (if t126 = true then ((spec_FpMul.f a0_1 a0_1).bind fun t127 => ((spec_l07Right.f a0_0).bind fun t128 => (some (t127 == t128)))) else (some false))) else (some false)))) = some r := h
 clear h
 by_cases c2 : a0_2 = true
 ·subst c2
  rw [if_pos rfl] at H
  by_cases c3 : a0_0 = 0
  ·rw [if_pos c3] at H
   have c3b0 : (a0_0 == 0) = true := beq_iff_eq.mpr c3
   have c3b1 : (a0_0 != 0) = false := bne_eq_false_iff_eq.mpr c3
   clear c3
   obtain rfl := Option.some.inj H
   go_enter Tryd.func87, Tryd.ntmps87
   go_wp2_with (first | ((with_reducible refine gate_dst (N := 1) rfl ?_); refine bE 1 #[.int .i64 a0_0, .int .i64 a0_1, .bool true] 23 ?_; intro gb124 hg w4 hbox hb; have BK124 := Aside0.mk (hbox); have GW124 := bG HB hg; have GE124 := bG HB hg; replace HB := bS HB hb; clear hb hbox hg; obtain ⟨hcz5_0, hcz5_1, hcz5_2, hfz5_0, hfz5_1, hfz5_2⟩ := bK3 (w := w4) BK124))
   repeat (go_quiet (first | ((with_reducible refine gate_dst (N := 1) rfl ?_); refine bE 1 #[.int .i64 a0_0, .int .i64 a0_1, .bool true] 23 ?_; intro gb124 hg w4 hbox hb; have BK124 := Aside0.mk (hbox); have GW124 := bG HB hg; have GE124 := bG HB hg; replace HB := bS HB hb; clear hb hbox hg; obtain ⟨hcz5_0, hcz5_1, hcz5_2, hfz5_0, hfz5_1, hfz5_2⟩ := bK3 (w := w4) BK124)); try go_wp2_with (first | ((with_reducible refine gate_dst (N := 1) rfl ?_); refine bE 1 #[.int .i64 a0_0, .int .i64 a0_1, .bool true] 23 ?_; intro gb124 hg w4 hbox hb; have BK124 := Aside0.mk (hbox); have GW124 := bG HB hg; have GE124 := bG HB hg; replace HB := bS HB hb; clear hb hbox hg; obtain ⟨hcz5_0, hcz5_1, hcz5_2, hfz5_0, hfz5_1, hfz5_2⟩ := bK3 (w := w4) BK124)))
   go_ret
   exact ⟨rR, bZ HB⟩
  ·rw [if_neg c3] at H
   have c3b0 : (a0_0 == 0) = false := beq_eq_false_iff_ne.mpr c3
   have c3b1 : (a0_0 != 0) = true := bne_iff_ne.mpr c3
   obtain rfl := Option.some.inj H
   go_enter Tryd.func87, Tryd.ntmps87
   go_wp2_with (first | ((with_reducible refine gate_dst (N := 1) rfl ?_); refine bE 1 #[.int .i64 a0_0, .int .i64 a0_1, .bool true] 23 ?_; intro gb124 hg w6 hbox hb; have BK124 := Aside0.mk (hbox); have GW124 := bG HB hg; have GE124 := bG HB hg; replace HB := bS HB hb; clear hb hbox hg; obtain ⟨hcz7_0, hcz7_1, hcz7_2, hfz7_0, hfz7_1, hfz7_2⟩ := bK3 (w := w6) BK124))
   repeat (go_quiet (first | ((with_reducible refine gate_dst (N := 1) rfl ?_); refine bE 1 #[.int .i64 a0_0, .int .i64 a0_1, .bool true] 23 ?_; intro gb124 hg w6 hbox hb; have BK124 := Aside0.mk (hbox); have GW124 := bG HB hg; have GE124 := bG HB hg; replace HB := bS HB hb; clear hb hbox hg; obtain ⟨hcz7_0, hcz7_1, hcz7_2, hfz7_0, hfz7_1, hfz7_2⟩ := bK3 (w := w6) BK124)); try go_wp2_with (first | ((with_reducible refine gate_dst (N := 1) rfl ?_); refine bE 1 #[.int .i64 a0_0, .int .i64 a0_1, .bool true] 23 ?_; intro gb124 hg w6 hbox hb; have BK124 := Aside0.mk (hbox); have GW124 := bG HB hg; have GE124 := bG HB hg; replace HB := bS HB hb; clear hb hbox hg; obtain ⟨hcz7_0, hcz7_1, hcz7_2, hfz7_0, hfz7_1, hfz7_2⟩ := bK3 (w := w6) BK124)))
   go_ret
   exact ⟨rR, bZ HB⟩
 ·replace c2 := Bool.eq_false_iff.mpr c2
  subst c2
  rw [if_neg (show ¬ (false = true) by decide)] at H
  replace H := Option.bind_eq_some_iff.mp H
  obtain ⟨t125, A80, H⟩ := H
  have A8 := Aside0.mk A80
  clear A80
  by_cases c9 : t125 = true
  ·subst c9
   rw [if_pos rfl] at H
   replace H := Option.bind_eq_some_iff.mp H
   obtain ⟨t126, A100, H⟩ := H
   have A10 := Aside0.mk A100
   clear A100
   by_cases c11 : t126 = true
   ·subst c11
    rw [if_pos rfl] at H
    replace H := Option.bind_eq_some_iff.mp H
    obtain ⟨t127, A120, H⟩ := H
    have A12 := Aside0.mk A120
    clear A120
    replace H := Option.bind_eq_some_iff.mp H
    obtain ⟨t128, A130, H⟩ := H
    have A13 := Aside0.mk A130
    clear A130
    obtain rfl := Option.some.inj H
    go_enter Tryd.func87, Tryd.ntmps87
    go_wp2_with (first | ((with_reducible refine gate_dst (N := 1) rfl ?_); refine bE 1 #[.int .i64 a0_0, .int .i64 a0_1, .bool false] 23 ?_; intro gb124 hg w14 hbox hb; have BK124 := Aside0.mk (hbox); have GW124 := bG HB hg; have GE124 := bG HB hg; replace HB := bS HB hb; clear hb hbox hg; obtain ⟨hcz15_0, hcz15_1, hcz15_2, hfz15_0, hfz15_1, hfz15_2⟩ := bK3 (w := w14) BK124) | (go_at_call 119; (with_reducible refine (spec_FpOk.calls a0_0 true _ A8.out).mono ?_); rintro e w' ⟨rfl, ⟨nd, rfl⟩⟩; (try exact tD)) | (go_at_call 119; (with_reducible refine (spec_FpOk.calls a0_1 true _ A10.out).mono ?_); rintro e w' ⟨rfl, ⟨nd, rfl⟩⟩; (try exact tD)) | (go_at_call 84; (with_reducible refine (spec_FpMul.calls a0_1 a0_1 t127 _ A12.out).mono ?_); rintro e w' ⟨rfl, ⟨nd, rfl⟩⟩; (try exact tD)) | (go_at_call 44; (with_reducible refine (spec_l07Right.calls a0_0 t128 _ A13.out).mono ?_); rintro e w' ⟨rfl, ⟨nd, rfl⟩⟩; (try exact tD)))
    repeat (go_quiet (first | ((with_reducible refine gate_dst (N := 1) rfl ?_); refine bE 1 #[.int .i64 a0_0, .int .i64 a0_1, .bool false] 23 ?_; intro gb124 hg w14 hbox hb; have BK124 := Aside0.mk (hbox); have GW124 := bG HB hg; have GE124 := bG HB hg; replace HB := bS HB hb; clear hb hbox hg; obtain ⟨hcz15_0, hcz15_1, hcz15_2, hfz15_0, hfz15_1, hfz15_2⟩ := bK3 (w := w14) BK124) | (go_at_call 119; (with_reducible refine (spec_FpOk.calls a0_0 true _ A8.out).mono ?_); rintro e w' ⟨rfl, ⟨nd, rfl⟩⟩; (try exact tD)) | (go_at_call 119; (with_reducible refine (spec_FpOk.calls a0_1 true _ A10.out).mono ?_); rintro e w' ⟨rfl, ⟨nd, rfl⟩⟩; (try exact tD)) | (go_at_call 84; (with_reducible refine (spec_FpMul.calls a0_1 a0_1 t127 _ A12.out).mono ?_); rintro e w' ⟨rfl, ⟨nd, rfl⟩⟩; (try exact tD)) | (go_at_call 44; (with_reducible refine (spec_l07Right.calls a0_0 t128 _ A13.out).mono ?_); rintro e w' ⟨rfl, ⟨nd, rfl⟩⟩; (try exact tD))); try go_wp2_with (first | ((with_reducible refine gate_dst (N := 1) rfl ?_); refine bE 1 #[.int .i64 a0_0, .int .i64 a0_1, .bool false] 23 ?_; intro gb124 hg w14 hbox hb; have BK124 := Aside0.mk (hbox); have GW124 := bG HB hg; have GE124 := bG HB hg; replace HB := bS HB hb; clear hb hbox hg; obtain ⟨hcz15_0, hcz15_1, hcz15_2, hfz15_0, hfz15_1, hfz15_2⟩ := bK3 (w := w14) BK124) | (go_at_call 119; (with_reducible refine (spec_FpOk.calls a0_0 true _ A8.out).mono ?_); rintro e w' ⟨rfl, ⟨nd, rfl⟩⟩; (try exact tD)) | (go_at_call 119; (with_reducible refine (spec_FpOk.calls a0_1 true _ A10.out).mono ?_); rintro e w' ⟨rfl, ⟨nd, rfl⟩⟩; (try exact tD)) | (go_at_call 84; (with_reducible refine (spec_FpMul.calls a0_1 a0_1 t127 _ A12.out).mono ?_); rintro e w' ⟨rfl, ⟨nd, rfl⟩⟩; (try exact tD)) | (go_at_call 44; (with_reducible refine (spec_l07Right.calls a0_0 t128 _ A13.out).mono ?_); rintro e w' ⟨rfl, ⟨nd, rfl⟩⟩; (try exact tD))))
    go_ret
    exact ⟨rR, bZ HB⟩
   ·replace c11 := Bool.eq_false_iff.mpr c11
    subst c11
    rw [if_neg (show ¬ (false = true) by decide)] at H
    obtain rfl := Option.some.inj H
    go_enter Tryd.func87, Tryd.ntmps87
    go_wp2_with (first | ((with_reducible refine gate_dst (N := 1) rfl ?_); refine bE 1 #[.int .i64 a0_0, .int .i64 a0_1, .bool false] 23 ?_; intro gb124 hg w16 hbox hb; have BK124 := Aside0.mk (hbox); have GW124 := bG HB hg; have GE124 := bG HB hg; replace HB := bS HB hb; clear hb hbox hg; obtain ⟨hcz17_0, hcz17_1, hcz17_2, hfz17_0, hfz17_1, hfz17_2⟩ := bK3 (w := w16) BK124) | (go_at_call 119; (with_reducible refine (spec_FpOk.calls a0_0 true _ A8.out).mono ?_); rintro e w' ⟨rfl, ⟨nd, rfl⟩⟩; (try exact tD)) | (go_at_call 119; (with_reducible refine (spec_FpOk.calls a0_1 false _ A10.out).mono ?_); rintro e w' ⟨rfl, ⟨nd, rfl⟩⟩; (try exact tD)))
    repeat (go_quiet (first | ((with_reducible refine gate_dst (N := 1) rfl ?_); refine bE 1 #[.int .i64 a0_0, .int .i64 a0_1, .bool false] 23 ?_; intro gb124 hg w16 hbox hb; have BK124 := Aside0.mk (hbox); have GW124 := bG HB hg; have GE124 := bG HB hg; replace HB := bS HB hb; clear hb hbox hg; obtain ⟨hcz17_0, hcz17_1, hcz17_2, hfz17_0, hfz17_1, hfz17_2⟩ := bK3 (w := w16) BK124) | (go_at_call 119; (with_reducible refine (spec_FpOk.calls a0_0 true _ A8.out).mono ?_); rintro e w' ⟨rfl, ⟨nd, rfl⟩⟩; (try exact tD)) | (go_at_call 119; (with_reducible refine (spec_FpOk.calls a0_1 false _ A10.out).mono ?_); rintro e w' ⟨rfl, ⟨nd, rfl⟩⟩; (try exact tD))); try go_wp2_with (first | ((with_reducible refine gate_dst (N := 1) rfl ?_); refine bE 1 #[.int .i64 a0_0, .int .i64 a0_1, .bool false] 23 ?_; intro gb124 hg w16 hbox hb; have BK124 := Aside0.mk (hbox); have GW124 := bG HB hg; have GE124 := bG HB hg; replace HB := bS HB hb; clear hb hbox hg; obtain ⟨hcz17_0, hcz17_1, hcz17_2, hfz17_0, hfz17_1, hfz17_2⟩ := bK3 (w := w16) BK124) | (go_at_call 119; (with_reducible refine (spec_FpOk.calls a0_0 true _ A8.out).mono ?_); rintro e w' ⟨rfl, ⟨nd, rfl⟩⟩; (try exact tD)) | (go_at_call 119; (with_reducible refine (spec_FpOk.calls a0_1 false _ A10.out).mono ?_); rintro e w' ⟨rfl, ⟨nd, rfl⟩⟩; (try exact tD))))
    go_ret
    exact ⟨rR, bZ HB⟩
  ·replace c9 := Bool.eq_false_iff.mpr c9
   subst c9
   rw [if_neg (show ¬ (false = true) by decide)] at H
   obtain rfl := Option.some.inj H
   go_enter Tryd.func87, Tryd.ntmps87
   go_wp2_with (first | ((with_reducible refine gate_dst (N := 1) rfl ?_); refine bE 1 #[.int .i64 a0_0, .int .i64 a0_1, .bool false] 23 ?_; intro gb124 hg w18 hbox hb; have BK124 := Aside0.mk (hbox); have GW124 := bG HB hg; have GE124 := bG HB hg; replace HB := bS HB hb; clear hb hbox hg; obtain ⟨hcz19_0, hcz19_1, hcz19_2, hfz19_0, hfz19_1, hfz19_2⟩ := bK3 (w := w18) BK124) | (go_at_call 119; (with_reducible refine (spec_FpOk.calls a0_0 false _ A8.out).mono ?_); rintro e w' ⟨rfl, ⟨nd, rfl⟩⟩; (try exact tD)))
   repeat (go_quiet (first | ((with_reducible refine gate_dst (N := 1) rfl ?_); refine bE 1 #[.int .i64 a0_0, .int .i64 a0_1, .bool false] 23 ?_; intro gb124 hg w18 hbox hb; have BK124 := Aside0.mk (hbox); have GW124 := bG HB hg; have GE124 := bG HB hg; replace HB := bS HB hb; clear hb hbox hg; obtain ⟨hcz19_0, hcz19_1, hcz19_2, hfz19_0, hfz19_1, hfz19_2⟩ := bK3 (w := w18) BK124) | (go_at_call 119; (with_reducible refine (spec_FpOk.calls a0_0 false _ A8.out).mono ?_); rintro e w' ⟨rfl, ⟨nd, rfl⟩⟩; (try exact tD))); try go_wp2_with (first | ((with_reducible refine gate_dst (N := 1) rfl ?_); refine bE 1 #[.int .i64 a0_0, .int .i64 a0_1, .bool false] 23 ?_; intro gb124 hg w18 hbox hb; have BK124 := Aside0.mk (hbox); have GW124 := bG HB hg; have GE124 := bG HB hg; replace HB := bS HB hb; clear hb hbox hg; obtain ⟨hcz19_0, hcz19_1, hcz19_2, hfz19_0, hfz19_1, hfz19_2⟩ := bK3 (w := w18) BK124) | (go_at_call 119; (with_reducible refine (spec_FpOk.calls a0_0 false _ A8.out).mono ?_); rintro e w' ⟨rfl, ⟨nd, rfl⟩⟩; (try exact tD))))
   go_ret
   exact ⟨rR, bZ HB⟩
/-! ### spec_PointNeg: function 88 -/
def spec_PointNeg.f (a0_0 : Int) (a0_1 : Int) (a0_2 : Bool) : Option (Int × Int × Bool) := if a0_2 = true then ((spec_l07Zero.f).bind fun bt131 => (some (bt131.1, bt131.2.1, bt131.2.2))) else ((spec_FpSub.f 0 a0_1).bind fun t134 => (some (a0_0, t134, false)))
set_option maxHeartbeats 8000000 in
set_option maxRecDepth 100000 in
theorem spec_PointNeg.calls (a0_0 : Int) (a0_1 : Int) (a0_2 : Bool) (r1 : Int) (r2 : Int) (r3 : Bool) (w : World) (h : spec_PointNeg.f a0_0 a0_1 a0_2 = some (r1, r2, r3)) :
  Calls Tryd.prog 88 #[.agg #[.int .i64 a0_0, .int .i64 a0_1, .bool a0_2]] w fun e w' => e = .returned (.agg #[.int .i64 r1, .int .i64 r2, .bool r3]) ∧ Below w.heap.size w w' := by
 have hu23 := Tryd.underlying23
 have HB := Aside0.mk (Below.refl w.heap.size w)
 have H : (if a0_2 = true then ((spec_l07Zero.f).bind fun bt131 => (some (bt131.1, bt131.2.1, bt131.2.2))) else ((spec_FpSub.f 0 a0_1).bind fun t134 => (some (a0_0, t134, false)))) = some (r1, r2, r3) := h
 clear h
 by_cases c2 : a0_2 = true
 ·subst c2
  rw [if_pos rfl] at H
  replace H := Option.bind_eq_some_iff.mp H
  obtain ⟨⟨t131, t132, t133⟩, A30, H⟩ := H
  have A3 := Aside0.mk A30
  clear A30
  simp only [Option.some.injEq, Prod.mk.injEq] at H
  obtain ⟨rfl, rfl, rfl⟩ := H
  go_enter Tryd.func88, Tryd.ntmps88
  go_wp2_with (first | ((with_reducible refine gate_dst (N := 1) rfl ?_); refine bE 1 #[.int .i64 a0_0, .int .i64 a0_1, .bool true] 23 ?_; intro gb129 hg w4 hbox hb; have BK129 := Aside0.mk (hbox); have GW129 := bG HB hg; have GE129 := bG HB hg; replace HB := bS HB hb; clear hb hbox hg) | ((with_reducible refine gate_dst (N := 2) rfl ?_); refine bE 2 #[.int .i64 0, .int .i64 0, .bool false] 23 ?_; intro gb130 hg w5 hbox hb; have BK130 := Aside0.mk (hbox); have GW130 := bG HB hg; have GE130 := bG HB hg; replace HB := bS HB hb; have NB129_130 := bL BK129 hg; have NB130_129 := bR BK129 hg; replace BK129 := bB BK129 hb; clear hb hbox hg; have hnb6 := NB129_130.out; have hnc6 := NB130_129.out; obtain ⟨hcz7_0, hcz7_1, hcz7_2, hfz7_0, hfz7_1, hfz7_2⟩ := bK3 (w := w5) BK129) | ((with_reducible refine gate_callee (f := 56) rfl ?_); refine gL (some 5) Tryd.func56 #[] ?_; (with_reducible refine (spec_l07Zero.calls  t131 t132 t133 _ A3.out).mono ?_); rintro e w8 ⟨rfl, hb⟩; refine ⟨_, rfl, ?_⟩; replace BK129 := bB BK129 hb; replace BK130 := bB BK130 hb; replace HB := bS HB hb; (try clear hb); obtain ⟨hcz9_0, hcz9_1, hcz9_2, hfz9_0, hfz9_1, hfz9_2⟩ := bK3 (w := w8) BK130))
  refine rC gb130 23 #[.int .i64 t131, .int .i64 t132, .bool t133] (bU BK130) Tryd.underlying23 ?_
  exact ⟨rR, bZ HB⟩
 ·replace c2 := Bool.eq_false_iff.mpr c2
  subst c2
  rw [if_neg (show ¬ (false = true) by decide)] at H
  replace H := Option.bind_eq_some_iff.mp H
  obtain ⟨t134, A100, H⟩ := H
  have A10 := Aside0.mk A100
  clear A100
  simp only [Option.some.injEq, Prod.mk.injEq] at H
  obtain ⟨rfl, rfl, rfl⟩ := H
  go_enter Tryd.func88, Tryd.ntmps88
  try go_wp2_with (first | ((with_reducible refine gate_dst (N := 1) rfl ?_); refine bE 1 #[.int .i64 a0_0, .int .i64 a0_1, .bool false] 23 ?_; intro gb129 hg w11 hbox hb; have BK129 := Aside0.mk (hbox); have GW129 := bG HB hg; have GE129 := bG HB hg; replace HB := bS HB hb; clear hb hbox hg) | ((with_reducible refine gate_dst (N := 2) rfl ?_); refine bE 2 #[.int .i64 0, .int .i64 0, .bool false] 23 ?_; intro gb130 hg w12 hbox hb; have BK130 := Aside0.mk (hbox); have GW130 := bG HB hg; have GE130 := bG HB hg; replace HB := bS HB hb; have NB129_130 := bL BK129 hg; have NB130_129 := bR BK129 hg; replace BK129 := bB BK129 hb; clear hb hbox hg; have hnb13 := NB129_130.out; have hnc13 := NB130_129.out; obtain ⟨hcz14_0, hcz14_1, hcz14_2, hfz14_0, hfz14_1, hfz14_2⟩ := bK3 (w := w12) BK129))
  replace BK129 := Aside0.mk (blk_drew BK129.out)
  replace BK130 := Aside0.mk (blk_drew BK130.out)
  replace HB := Aside0.mk (below_drew1 HB.out)
  refine start_ (n := 7) (S := fun w' => w'.cell? ⟨gb129, 0, none⟩ = some (.int .i64 a0_0) ∧ w'.cell? ⟨gb129, 1, none⟩ = some (.int .i64 a0_1) ∧ w'.cell? ⟨gb129, 2, none⟩ = some (.bool false)) (ds := []) #[false, false, false, false, false, false, false] (by kernel_rfl) rfl rfl ⟨bc BK129 0, bc BK129 1, bc BK129 2⟩ (fun hHeld => ?_)
  generalize w12.drew = w15 at BK129 BK130 HB hHeld ⊢
  refine pure_ (i := 0) (N := some 6) (v := ?_) (a' := ?_) #[true, false, false, false, false, false, false] rfl rfl (by kernel_rfl) (fun _ _ _ h => h) (Or.inl ⟨by rfl, ?_⟩) ?_ ?_
  rotate_left
  ·intro w'
   go_simp
   with_reducible rfl
  rotate_left
  ·simp only [Act.put, List.setIfInBounds_toArray, List.set_cons_zero, List.set_cons_succ, i64_w, i32_w]
   rfl
  refine pure_ (i := 2) (N := some 8) (v := ?_) (a' := ?_) #[true, false, true, false, false, false, false] rfl rfl (by kernel_rfl) (fun _ _ _ h => h) (Or.inl ⟨by rfl, ?_⟩) ?_ ?_
  rotate_left
  ·intro w'
   go_simp
   with_reducible rfl
  rotate_left
  ·simp only [Act.put, List.setIfInBounds_toArray, List.set_cons_zero, List.set_cons_succ, i64_w, i32_w]
   rfl
  refine take_ (i := 1) (N := some 7) (v := ?_) (a' := ?_) #[true, true, true, false, false, false, false] rfl rfl (by kernel_rfl) (fun _ _ _ h => h) (Or.inl ⟨by rfl, ?_⟩) hHeld ?_ ?_
  rotate_left
  ·rintro w' ⟨s0, s1, s2⟩
   go_simp
   with_reducible rfl
  rotate_left
  ·simp only [Act.put, List.setIfInBounds_toArray, List.set_cons_zero, List.set_cons_succ, i64_w, i32_w]
   rfl
  refine take_ (i := 3) (N := some 9) (v := ?_) (a' := ?_) #[true, true, true, true, false, false, false] rfl rfl (by kernel_rfl) (fun _ _ _ h => h) (Or.inl ⟨by rfl, ?_⟩) hHeld ?_ ?_
  rotate_left
  ·rintro w' ⟨s0, s1, s2⟩
   go_simp
   with_reducible rfl
  rotate_left
  ·simp only [Act.put, List.setIfInBounds_toArray, List.set_cons_zero, List.set_cons_succ, i64_w, i32_w]
   rfl
  refine one_ (i := 4) (N := some 10) #[true, true, true, true, true, false, false] rfl rfl (by kernel_rfl) (by decide) (fun K hK => ?_)
  refine gO Tryd.func85 #[.int .i64 0, .int .i64 a0_1] ?_
  with_reducible refine (spec_FpSub.calls 0 a0_1 t134 _ A10.out).mono ?_
  rintro e w' ⟨rfl, ⟨nd, rfl⟩⟩
  refine ⟨_, rfl, ?_⟩
  refine hK.out _ _ ⟨bc BK129 0, bc BK129 1, bc BK129 2⟩ (fun hHeld => ?_)
  clear hK K
  refine nO (some 10) ?_
  refine pure_ (i := 5) (N := some 11) (v := ?_) (a' := ?_) #[true, true, true, true, true, true, false] rfl rfl (by kernel_rfl) (fun _ _ _ h => h) (Or.inl ⟨by rfl, ?_⟩) ?_ ?_
  rotate_left
  ·intro w'
   go_simp
   with_reducible rfl
  rotate_left
  ·simp only [Act.put, List.setIfInBounds_toArray, List.set_cons_zero, List.set_cons_succ, i64_w, i32_w]
   rfl
  refine one_ (i := 6) (N := none) #[true, true, true, true, true, true, true] rfl rfl (by kernel_rfl) (by decide) (fun K hK => ?_)
  have hs16 : w15.cell? ⟨gb130, 0, none⟩ = some (.int .i64 0) := bc BK130 0
  have hfs16 := blk_frozen BK130.out 0
  have hns16_0 := NB129_130.out
  have hms16_0 := NB130_129.out
  have hs17 : w15.cell? ⟨gb130, 1, none⟩ = some (.int .i64 0) := bc BK130 1
  have hfs17 := blk_frozen BK130.out 1
  have hns17_0 := NB129_130.out
  have hms17_0 := NB130_129.out
  have hs18 : w15.cell? ⟨gb130, 2, none⟩ = some (.bool false) := bc BK130 2
  have hfs18 := blk_frozen BK130.out 2
  have hns18_0 := NB129_130.out
  have hms18_0 := NB130_129.out
  refine skip_ (w1 := ?_) (by rfl) rfl ?_ ?_
  rotate_left
  ·go_simp
   rfl
  refine hK.out _ _ ⟨((cell_far (p := ⟨gb130, _, none⟩) NB129_130.out _).trans (((cell_far (p := ⟨gb130, _, none⟩) NB129_130.out _).trans (((cell_far (p := ⟨gb130, _, none⟩) NB129_130.out _).trans (hHeld.1)))))), ((cell_far (p := ⟨gb130, _, none⟩) NB129_130.out _).trans (((cell_far (p := ⟨gb130, _, none⟩) NB129_130.out _).trans (((cell_far (p := ⟨gb130, _, none⟩) NB129_130.out _).trans (hHeld.2.1)))))), ((cell_far (p := ⟨gb130, _, none⟩) NB129_130.out _).trans (((cell_far (p := ⟨gb130, _, none⟩) NB129_130.out _).trans (((cell_far (p := ⟨gb130, _, none⟩) NB129_130.out _).trans (hHeld.2.2))))))⟩ (fun hHeld => ?_)
  clear hK K
  refine done_ (by kernel_rfl) ?_
  try go_wp2
  refine rC gb130 23 #[.int .i64 a0_0, .int .i64 t134, .bool false] (bU BK130) Tryd.underlying23 ?_
  exact ⟨rR, bZ HB⟩
/-! ### spec_FpInv: function 131 -/
def spec_FpInv.f (k : Nat) (a0 : Int) : Option (Int) := (spec_FpPow.f k a0 12105).bind fun t135 => (some t135)
theorem spec_FpInv.mono : ∀ a0 k, LeO (spec_FpInv.f k a0) (spec_FpInv.f (k + 1) a0) := by
 intro a0 k
 unfold spec_FpInv.f
 repeat' first
   | (with_reducible exact spec_FpPow.mono _ _ _)
   | (with_reducible exact LeO.refl _)
   | (with_reducible exact LeO.none _)
   | (with_reducible refine LeO.ite ?_ ?_)
   | (with_reducible refine LeO.bind ?_ (fun _ => ?_))
   | exact spec_FpPow.mono _ _ _
   | exact LeO.none _
   | refine LeO.ite ?_ ?_
   | refine LeO.bind ?_ (fun _ => ?_)
set_option maxHeartbeats 8000000 in
set_option maxRecDepth 100000 in
theorem spec_FpInv.calls (k : Nat) (a0 : Int) (r : Int) (w : World) (h : spec_FpInv.f k a0 = some r) :
  Calls Tryd.prog 131 #[.int .i64 a0] w fun e w' => e = .returned (.int .i64 r) ∧ Drawn0 w w' := by
 have H : ((spec_FpPow.f k a0 12105).bind fun t135 => (some t135)) = some r := h
 clear h
 replace H := Option.bind_eq_some_iff.mp H
 obtain ⟨t135, A20, H⟩ := H
 have A2 := Aside0.mk A20
 clear A20
 obtain rfl := Option.some.inj H
 go_enter Tryd.func131, Tryd.ntmps131
 go_wp2_with (first | ((with_reducible refine gate_callee (f := 83) rfl ?_); refine gL (some 4) Tryd.func83 #[.int .i64 a0, .int .i64 12105] ?_; (with_reducible refine (spec_FpPow.calls k a0 12105 t135 _ A2.out).mono ?_); rintro e w' ⟨rfl, ⟨nd, rfl⟩⟩; refine ⟨_, rfl, ?_⟩))
 go_ret
 exact ⟨rS, rD⟩
/-! ### spec_l07Slope: function 120 -/
def spec_l07Slope.f (k : Nat) (a0_0 : Int) (a0_1 : Int) (a0_2 : Bool) (a1_0 : Int) (a1_1 : Int) (a1_2 : Bool) : Option (Int × Bool) := if a0_0 = a1_0 then ((spec_FpAdd.f a0_1 a1_1).bind fun t142 => (if t142 = 0 then (some (0, false)) else ((spec_FpMul.f a0_0 a0_0).bind fun t143 => ((spec_FpMul.f 3 t143).bind fun t144 => ((spec_FpAdd.f t144 1).bind fun t145 => ((spec_FpMul.f 2 a0_1).bind fun t146 => ((spec_FpInv.f k t146).bind fun t147 => ((spec_FpMul.f t145 t147).bind fun t148 => (some (t148, true)))))))))) else ((spec_FpSub.f a1_1 a0_1).bind fun t138 => ((spec_FpSub.f a1_0 a0_0).bind fun t139 => ((spec_FpInv.f k t139).bind fun t140 => ((spec_FpMul.f t138 t140).bind fun t141 => (some (t141, true))))))
theorem spec_l07Slope.mono : ∀ a0 a1 a2 a3 a4 a5 k, LeO (spec_l07Slope.f k a0 a1 a2 a3 a4 a5) (spec_l07Slope.f (k + 1) a0 a1 a2 a3 a4 a5) := by
 intro a0 a1 a2 a3 a4 a5 k
 unfold spec_l07Slope.f
 repeat' first
   | (with_reducible exact spec_FpInv.mono _ _)
   | (with_reducible exact LeO.refl _)
   | (with_reducible exact LeO.none _)
   | (with_reducible refine LeO.ite ?_ ?_)
   | (with_reducible refine LeO.bind ?_ (fun _ => ?_))
   | exact spec_FpInv.mono _ _
   | exact LeO.none _
   | refine LeO.ite ?_ ?_
   | refine LeO.bind ?_ (fun _ => ?_)
set_option maxHeartbeats 8000000 in
set_option maxRecDepth 100000 in
theorem spec_l07Slope.calls (k : Nat) (a0_0 : Int) (a0_1 : Int) (a0_2 : Bool) (a1_0 : Int) (a1_1 : Int) (a1_2 : Bool) (r1 : Int) (r2 : Bool) (w : World) (h : spec_l07Slope.f k a0_0 a0_1 a0_2 a1_0 a1_1 a1_2 = some (r1, r2)) :
  Calls Tryd.prog 120 #[.agg #[.int .i64 a0_0, .int .i64 a0_1, .bool a0_2], .agg #[.int .i64 a1_0, .int .i64 a1_1, .bool a1_2]] w fun e w' => e = .returned (.tuple #[.int .i64 r1, .bool r2]) ∧ Below w.heap.size w w' := by
 have hu23 := Tryd.underlying23
 have HB := Aside0.mk (Below.refl w.heap.size w)
 have H : (if a0_0 = a1_0 then ((spec_FpAdd.f a0_1 a1_1).bind fun t142 => (if t142 = 0 then (some (0, false)) else ((spec_FpMul.f a0_0 a0_0).bind fun t143 => ((spec_FpMul.f 3 t143).bind fun t144 => ((spec_FpAdd.f t144 1).bind fun t145 => ((spec_FpMul.f 2 a0_1).bind fun t146 => ((spec_FpInv.f k t146).bind fun t147 => ((spec_FpMul.f t145 t147).bind fun t148 => (some (t148, true)))))))))) else ((spec_FpSub.f a1_1 a0_1).bind fun t138 => ((spec_FpSub.f a1_0 a0_0).bind fun t139 => ((spec_FpInv.f k t139).bind fun t140 => ((spec_FpMul.f t138 t140).bind fun t141 => (some (t141, true))))))) = some (r1, r2) := h
 clear h
 by_cases c3 : a0_0 = a1_0
 ·rw [if_pos c3] at H
  have c3b0 : (a0_0 == a1_0) = true := beq_iff_eq.mpr c3
  have c3b1 : (a0_0 != a1_0) = false := bne_eq_false_iff_eq.mpr c3
  clear c3
  replace H := Option.bind_eq_some_iff.mp H
  obtain ⟨t142, A40, H⟩ := H
  have A4 := Aside0.mk A40
  clear A40
  by_cases c5 : t142 = 0
  ·rw [if_pos c5] at H
   have c5b0 : (t142 == 0) = true := beq_iff_eq.mpr c5
   have c5b1 : (t142 != 0) = false := bne_eq_false_iff_eq.mpr c5
   clear c5
   simp only [Option.some.injEq, Prod.mk.injEq] at H
   obtain ⟨rfl, rfl⟩ := H
   go_enter Tryd.func120, Tryd.ntmps120
   go_wp2_with (first | ((with_reducible refine gate_dst (N := 2) rfl ?_); refine bE 2 #[.int .i64 a0_0, .int .i64 a0_1, .bool a0_2] 23 ?_; intro gb136 hg w6 hbox hb; have BK136 := Aside0.mk (hbox); have GW136 := bG HB hg; have GE136 := bG HB hg; replace HB := bS HB hb; clear hb hbox hg) | ((with_reducible refine gate_dst (N := 3) rfl ?_); refine bE 3 #[.int .i64 a1_0, .int .i64 a1_1, .bool a1_2] 23 ?_; intro gb137 hg w7 hbox hb; have BK137 := Aside0.mk (hbox); have GW137 := bG HB hg; have GE137 := bG HB hg; replace HB := bS HB hb; have NB136_137 := bL BK136 hg; have NB137_136 := bR BK136 hg; replace BK136 := bB BK136 hb; clear hb hbox hg; have hnb8 := NB136_137.out; have hnc8 := NB137_136.out; obtain ⟨hcz9_0, hcz9_1, hcz9_2, hfz9_0, hfz9_1, hfz9_2⟩ := bK3 (w := w7) BK136; obtain ⟨hcz10_0, hcz10_1, hcz10_2, hfz10_0, hfz10_1, hfz10_2⟩ := bK3 (w := w7) BK137) | (go_at_call 86; (with_reducible refine (spec_FpAdd.calls a0_1 a1_1 t142 _ A4.out).mono ?_); rintro e w' ⟨rfl, ⟨nd, rfl⟩⟩; (try exact tD)))
   repeat (go_quiet (first | ((with_reducible refine gate_dst (N := 2) rfl ?_); refine bE 2 #[.int .i64 a0_0, .int .i64 a0_1, .bool a0_2] 23 ?_; intro gb136 hg w6 hbox hb; have BK136 := Aside0.mk (hbox); have GW136 := bG HB hg; have GE136 := bG HB hg; replace HB := bS HB hb; clear hb hbox hg) | ((with_reducible refine gate_dst (N := 3) rfl ?_); refine bE 3 #[.int .i64 a1_0, .int .i64 a1_1, .bool a1_2] 23 ?_; intro gb137 hg w7 hbox hb; have BK137 := Aside0.mk (hbox); have GW137 := bG HB hg; have GE137 := bG HB hg; replace HB := bS HB hb; have NB136_137 := bL BK136 hg; have NB137_136 := bR BK136 hg; replace BK136 := bB BK136 hb; clear hb hbox hg; have hnb8 := NB136_137.out; have hnc8 := NB137_136.out; obtain ⟨hcz9_0, hcz9_1, hcz9_2, hfz9_0, hfz9_1, hfz9_2⟩ := bK3 (w := w7) BK136; obtain ⟨hcz10_0, hcz10_1, hcz10_2, hfz10_0, hfz10_1, hfz10_2⟩ := bK3 (w := w7) BK137) | (go_at_call 86; (with_reducible refine (spec_FpAdd.calls a0_1 a1_1 t142 _ A4.out).mono ?_); rintro e w' ⟨rfl, ⟨nd, rfl⟩⟩; (try exact tD))); try go_wp2_with (first | ((with_reducible refine gate_dst (N := 2) rfl ?_); refine bE 2 #[.int .i64 a0_0, .int .i64 a0_1, .bool a0_2] 23 ?_; intro gb136 hg w6 hbox hb; have BK136 := Aside0.mk (hbox); have GW136 := bG HB hg; have GE136 := bG HB hg; replace HB := bS HB hb; clear hb hbox hg) | ((with_reducible refine gate_dst (N := 3) rfl ?_); refine bE 3 #[.int .i64 a1_0, .int .i64 a1_1, .bool a1_2] 23 ?_; intro gb137 hg w7 hbox hb; have BK137 := Aside0.mk (hbox); have GW137 := bG HB hg; have GE137 := bG HB hg; replace HB := bS HB hb; have NB136_137 := bL BK136 hg; have NB137_136 := bR BK136 hg; replace BK136 := bB BK136 hb; clear hb hbox hg; have hnb8 := NB136_137.out; have hnc8 := NB137_136.out; obtain ⟨hcz9_0, hcz9_1, hcz9_2, hfz9_0, hfz9_1, hfz9_2⟩ := bK3 (w := w7) BK136; obtain ⟨hcz10_0, hcz10_1, hcz10_2, hfz10_0, hfz10_1, hfz10_2⟩ := bK3 (w := w7) BK137) | (go_at_call 86; (with_reducible refine (spec_FpAdd.calls a0_1 a1_1 t142 _ A4.out).mono ?_); rintro e w' ⟨rfl, ⟨nd, rfl⟩⟩; (try exact tD))))
   go_ret2
   exact ⟨rR, bZ HB⟩
  ·rw [if_neg c5] at H
   have c5b0 : (t142 == 0) = false := beq_eq_false_iff_ne.mpr c5
   have c5b1 : (t142 != 0) = true := bne_iff_ne.mpr c5
   replace H := Option.bind_eq_some_iff.mp H
   obtain ⟨t143, A110, H⟩ := H
   have A11 := Aside0.mk A110
   clear A110
   replace H := Option.bind_eq_some_iff.mp H
   obtain ⟨t144, A120, H⟩ := H
   have A12 := Aside0.mk A120
   clear A120
   replace H := Option.bind_eq_some_iff.mp H
   obtain ⟨t145, A130, H⟩ := H
   have A13 := Aside0.mk A130
   clear A130
   replace H := Option.bind_eq_some_iff.mp H
   obtain ⟨t146, A140, H⟩ := H
   have A14 := Aside0.mk A140
   clear A140
   replace H := Option.bind_eq_some_iff.mp H
   obtain ⟨t147, A150, H⟩ := H
   have A15 := Aside0.mk A150
   clear A150
   replace H := Option.bind_eq_some_iff.mp H
   obtain ⟨t148, A160, H⟩ := H
   have A16 := Aside0.mk A160
   clear A160
   simp only [Option.some.injEq, Prod.mk.injEq] at H
   obtain ⟨rfl, rfl⟩ := H
   go_enter Tryd.func120, Tryd.ntmps120
   go_wp2_with (first | ((with_reducible refine gate_dst (N := 2) rfl ?_); refine bE 2 #[.int .i64 a0_0, .int .i64 a0_1, .bool a0_2] 23 ?_; intro gb136 hg w17 hbox hb; have BK136 := Aside0.mk (hbox); have GW136 := bG HB hg; have GE136 := bG HB hg; replace HB := bS HB hb; clear hb hbox hg) | ((with_reducible refine gate_dst (N := 3) rfl ?_); refine bE 3 #[.int .i64 a1_0, .int .i64 a1_1, .bool a1_2] 23 ?_; intro gb137 hg w18 hbox hb; have BK137 := Aside0.mk (hbox); have GW137 := bG HB hg; have GE137 := bG HB hg; replace HB := bS HB hb; have NB136_137 := bL BK136 hg; have NB137_136 := bR BK136 hg; replace BK136 := bB BK136 hb; clear hb hbox hg; have hnb19 := NB136_137.out; have hnc19 := NB137_136.out; obtain ⟨hcz20_0, hcz20_1, hcz20_2, hfz20_0, hfz20_1, hfz20_2⟩ := bK3 (w := w18) BK136; obtain ⟨hcz21_0, hcz21_1, hcz21_2, hfz21_0, hfz21_1, hfz21_2⟩ := bK3 (w := w18) BK137) | (go_at_call 86; (with_reducible refine (spec_FpAdd.calls a0_1 a1_1 t142 _ A4.out).mono ?_); rintro e w' ⟨rfl, ⟨nd, rfl⟩⟩; (try exact tD)) | (go_at_call 84; (with_reducible refine (spec_FpMul.calls a0_0 a0_0 t143 _ A11.out).mono ?_); rintro e w' ⟨rfl, ⟨nd, rfl⟩⟩; (try exact tD)) | (go_at_call 84; (with_reducible refine (spec_FpMul.calls 3 t143 t144 _ A12.out).mono ?_); rintro e w' ⟨rfl, ⟨nd, rfl⟩⟩; (try exact tD)) | (go_at_call 86; (with_reducible refine (spec_FpAdd.calls t144 1 t145 _ A13.out).mono ?_); rintro e w' ⟨rfl, ⟨nd, rfl⟩⟩; (try exact tD)) | (go_at_call 84; (with_reducible refine (spec_FpMul.calls 2 a0_1 t146 _ A14.out).mono ?_); rintro e w' ⟨rfl, ⟨nd, rfl⟩⟩; (try exact tD)) | (go_at_call 131; (with_reducible refine (spec_FpInv.calls k t146 t147 _ A15.out).mono ?_); rintro e w' ⟨rfl, ⟨nd, rfl⟩⟩; (try exact tD)) | (go_at_call 84; (with_reducible refine (spec_FpMul.calls t145 t147 t148 _ A16.out).mono ?_); rintro e w' ⟨rfl, ⟨nd, rfl⟩⟩; (try exact tD)))
   repeat (go_quiet (first | ((with_reducible refine gate_dst (N := 2) rfl ?_); refine bE 2 #[.int .i64 a0_0, .int .i64 a0_1, .bool a0_2] 23 ?_; intro gb136 hg w17 hbox hb; have BK136 := Aside0.mk (hbox); have GW136 := bG HB hg; have GE136 := bG HB hg; replace HB := bS HB hb; clear hb hbox hg) | ((with_reducible refine gate_dst (N := 3) rfl ?_); refine bE 3 #[.int .i64 a1_0, .int .i64 a1_1, .bool a1_2] 23 ?_; intro gb137 hg w18 hbox hb; have BK137 := Aside0.mk (hbox); have GW137 := bG HB hg; have GE137 := bG HB hg; replace HB := bS HB hb; have NB136_137 := bL BK136 hg; have NB137_136 := bR BK136 hg; replace BK136 := bB BK136 hb; clear hb hbox hg; have hnb19 := NB136_137.out; have hnc19 := NB137_136.out; obtain ⟨hcz20_0, hcz20_1, hcz20_2, hfz20_0, hfz20_1, hfz20_2⟩ := bK3 (w := w18) BK136; obtain ⟨hcz21_0, hcz21_1, hcz21_2, hfz21_0, hfz21_1, hfz21_2⟩ := bK3 (w := w18) BK137) | (go_at_call 86; (with_reducible refine (spec_FpAdd.calls a0_1 a1_1 t142 _ A4.out).mono ?_); rintro e w' ⟨rfl, ⟨nd, rfl⟩⟩; (try exact tD)) | (go_at_call 84; (with_reducible refine (spec_FpMul.calls a0_0 a0_0 t143 _ A11.out).mono ?_); rintro e w' ⟨rfl, ⟨nd, rfl⟩⟩; (try exact tD)) | (go_at_call 84; (with_reducible refine (spec_FpMul.calls 3 t143 t144 _ A12.out).mono ?_); rintro e w' ⟨rfl, ⟨nd, rfl⟩⟩; (try exact tD)) | (go_at_call 86; (with_reducible refine (spec_FpAdd.calls t144 1 t145 _ A13.out).mono ?_); rintro e w' ⟨rfl, ⟨nd, rfl⟩⟩; (try exact tD)) | (go_at_call 84; (with_reducible refine (spec_FpMul.calls 2 a0_1 t146 _ A14.out).mono ?_); rintro e w' ⟨rfl, ⟨nd, rfl⟩⟩; (try exact tD)) | (go_at_call 131; (with_reducible refine (spec_FpInv.calls k t146 t147 _ A15.out).mono ?_); rintro e w' ⟨rfl, ⟨nd, rfl⟩⟩; (try exact tD)) | (go_at_call 84; (with_reducible refine (spec_FpMul.calls t145 t147 t148 _ A16.out).mono ?_); rintro e w' ⟨rfl, ⟨nd, rfl⟩⟩; (try exact tD))); try go_wp2_with (first | ((with_reducible refine gate_dst (N := 2) rfl ?_); refine bE 2 #[.int .i64 a0_0, .int .i64 a0_1, .bool a0_2] 23 ?_; intro gb136 hg w17 hbox hb; have BK136 := Aside0.mk (hbox); have GW136 := bG HB hg; have GE136 := bG HB hg; replace HB := bS HB hb; clear hb hbox hg) | ((with_reducible refine gate_dst (N := 3) rfl ?_); refine bE 3 #[.int .i64 a1_0, .int .i64 a1_1, .bool a1_2] 23 ?_; intro gb137 hg w18 hbox hb; have BK137 := Aside0.mk (hbox); have GW137 := bG HB hg; have GE137 := bG HB hg; replace HB := bS HB hb; have NB136_137 := bL BK136 hg; have NB137_136 := bR BK136 hg; replace BK136 := bB BK136 hb; clear hb hbox hg; have hnb19 := NB136_137.out; have hnc19 := NB137_136.out; obtain ⟨hcz20_0, hcz20_1, hcz20_2, hfz20_0, hfz20_1, hfz20_2⟩ := bK3 (w := w18) BK136; obtain ⟨hcz21_0, hcz21_1, hcz21_2, hfz21_0, hfz21_1, hfz21_2⟩ := bK3 (w := w18) BK137) | (go_at_call 86; (with_reducible refine (spec_FpAdd.calls a0_1 a1_1 t142 _ A4.out).mono ?_); rintro e w' ⟨rfl, ⟨nd, rfl⟩⟩; (try exact tD)) | (go_at_call 84; (with_reducible refine (spec_FpMul.calls a0_0 a0_0 t143 _ A11.out).mono ?_); rintro e w' ⟨rfl, ⟨nd, rfl⟩⟩; (try exact tD)) | (go_at_call 84; (with_reducible refine (spec_FpMul.calls 3 t143 t144 _ A12.out).mono ?_); rintro e w' ⟨rfl, ⟨nd, rfl⟩⟩; (try exact tD)) | (go_at_call 86; (with_reducible refine (spec_FpAdd.calls t144 1 t145 _ A13.out).mono ?_); rintro e w' ⟨rfl, ⟨nd, rfl⟩⟩; (try exact tD)) | (go_at_call 84; (with_reducible refine (spec_FpMul.calls 2 a0_1 t146 _ A14.out).mono ?_); rintro e w' ⟨rfl, ⟨nd, rfl⟩⟩; (try exact tD)) | (go_at_call 131; (with_reducible refine (spec_FpInv.calls k t146 t147 _ A15.out).mono ?_); rintro e w' ⟨rfl, ⟨nd, rfl⟩⟩; (try exact tD)) | (go_at_call 84; (with_reducible refine (spec_FpMul.calls t145 t147 t148 _ A16.out).mono ?_); rintro e w' ⟨rfl, ⟨nd, rfl⟩⟩; (try exact tD))))
   go_ret2
   exact ⟨rR, bZ HB⟩
 ·rw [if_neg c3] at H
  have c3b0 : (a0_0 == a1_0) = false := beq_eq_false_iff_ne.mpr c3
  have c3b1 : (a0_0 != a1_0) = true := bne_iff_ne.mpr c3
  replace H := Option.bind_eq_some_iff.mp H
  obtain ⟨t138, A220, H⟩ := H
  have A22 := Aside0.mk A220
  clear A220
  replace H := Option.bind_eq_some_iff.mp H
  obtain ⟨t139, A230, H⟩ := H
  have A23 := Aside0.mk A230
  clear A230
  replace H := Option.bind_eq_some_iff.mp H
  obtain ⟨t140, A240, H⟩ := H
  have A24 := Aside0.mk A240
  clear A240
  replace H := Option.bind_eq_some_iff.mp H
  obtain ⟨t141, A250, H⟩ := H
  have A25 := Aside0.mk A250
  clear A250
  simp only [Option.some.injEq, Prod.mk.injEq] at H
  obtain ⟨rfl, rfl⟩ := H
  go_enter Tryd.func120, Tryd.ntmps120
  go_wp2_with (first | ((with_reducible refine gate_dst (N := 2) rfl ?_); refine bE 2 #[.int .i64 a0_0, .int .i64 a0_1, .bool a0_2] 23 ?_; intro gb136 hg w26 hbox hb; have BK136 := Aside0.mk (hbox); have GW136 := bG HB hg; have GE136 := bG HB hg; replace HB := bS HB hb; clear hb hbox hg) | ((with_reducible refine gate_dst (N := 3) rfl ?_); refine bE 3 #[.int .i64 a1_0, .int .i64 a1_1, .bool a1_2] 23 ?_; intro gb137 hg w27 hbox hb; have BK137 := Aside0.mk (hbox); have GW137 := bG HB hg; have GE137 := bG HB hg; replace HB := bS HB hb; have NB136_137 := bL BK136 hg; have NB137_136 := bR BK136 hg; replace BK136 := bB BK136 hb; clear hb hbox hg; have hnb28 := NB136_137.out; have hnc28 := NB137_136.out; obtain ⟨hcz29_0, hcz29_1, hcz29_2, hfz29_0, hfz29_1, hfz29_2⟩ := bK3 (w := w27) BK136; obtain ⟨hcz30_0, hcz30_1, hcz30_2, hfz30_0, hfz30_1, hfz30_2⟩ := bK3 (w := w27) BK137) | (go_at_call 85; (with_reducible refine (spec_FpSub.calls a1_1 a0_1 t138 _ A22.out).mono ?_); rintro e w' ⟨rfl, ⟨nd, rfl⟩⟩; (try exact tD)) | (go_at_call 85; (with_reducible refine (spec_FpSub.calls a1_0 a0_0 t139 _ A23.out).mono ?_); rintro e w' ⟨rfl, ⟨nd, rfl⟩⟩; (try exact tD)) | (go_at_call 131; (with_reducible refine (spec_FpInv.calls k t139 t140 _ A24.out).mono ?_); rintro e w' ⟨rfl, ⟨nd, rfl⟩⟩; (try exact tD)) | (go_at_call 84; (with_reducible refine (spec_FpMul.calls t138 t140 t141 _ A25.out).mono ?_); rintro e w' ⟨rfl, ⟨nd, rfl⟩⟩; (try exact tD)))
  repeat (go_quiet (first | ((with_reducible refine gate_dst (N := 2) rfl ?_); refine bE 2 #[.int .i64 a0_0, .int .i64 a0_1, .bool a0_2] 23 ?_; intro gb136 hg w26 hbox hb; have BK136 := Aside0.mk (hbox); have GW136 := bG HB hg; have GE136 := bG HB hg; replace HB := bS HB hb; clear hb hbox hg) | ((with_reducible refine gate_dst (N := 3) rfl ?_); refine bE 3 #[.int .i64 a1_0, .int .i64 a1_1, .bool a1_2] 23 ?_; intro gb137 hg w27 hbox hb; have BK137 := Aside0.mk (hbox); have GW137 := bG HB hg; have GE137 := bG HB hg; replace HB := bS HB hb; have NB136_137 := bL BK136 hg; have NB137_136 := bR BK136 hg; replace BK136 := bB BK136 hb; clear hb hbox hg; have hnb28 := NB136_137.out; have hnc28 := NB137_136.out; obtain ⟨hcz29_0, hcz29_1, hcz29_2, hfz29_0, hfz29_1, hfz29_2⟩ := bK3 (w := w27) BK136; obtain ⟨hcz30_0, hcz30_1, hcz30_2, hfz30_0, hfz30_1, hfz30_2⟩ := bK3 (w := w27) BK137) | (go_at_call 85; (with_reducible refine (spec_FpSub.calls a1_1 a0_1 t138 _ A22.out).mono ?_); rintro e w' ⟨rfl, ⟨nd, rfl⟩⟩; (try exact tD)) | (go_at_call 85; (with_reducible refine (spec_FpSub.calls a1_0 a0_0 t139 _ A23.out).mono ?_); rintro e w' ⟨rfl, ⟨nd, rfl⟩⟩; (try exact tD)) | (go_at_call 131; (with_reducible refine (spec_FpInv.calls k t139 t140 _ A24.out).mono ?_); rintro e w' ⟨rfl, ⟨nd, rfl⟩⟩; (try exact tD)) | (go_at_call 84; (with_reducible refine (spec_FpMul.calls t138 t140 t141 _ A25.out).mono ?_); rintro e w' ⟨rfl, ⟨nd, rfl⟩⟩; (try exact tD))); try go_wp2_with (first | ((with_reducible refine gate_dst (N := 2) rfl ?_); refine bE 2 #[.int .i64 a0_0, .int .i64 a0_1, .bool a0_2] 23 ?_; intro gb136 hg w26 hbox hb; have BK136 := Aside0.mk (hbox); have GW136 := bG HB hg; have GE136 := bG HB hg; replace HB := bS HB hb; clear hb hbox hg) | ((with_reducible refine gate_dst (N := 3) rfl ?_); refine bE 3 #[.int .i64 a1_0, .int .i64 a1_1, .bool a1_2] 23 ?_; intro gb137 hg w27 hbox hb; have BK137 := Aside0.mk (hbox); have GW137 := bG HB hg; have GE137 := bG HB hg; replace HB := bS HB hb; have NB136_137 := bL BK136 hg; have NB137_136 := bR BK136 hg; replace BK136 := bB BK136 hb; clear hb hbox hg; have hnb28 := NB136_137.out; have hnc28 := NB137_136.out; obtain ⟨hcz29_0, hcz29_1, hcz29_2, hfz29_0, hfz29_1, hfz29_2⟩ := bK3 (w := w27) BK136; obtain ⟨hcz30_0, hcz30_1, hcz30_2, hfz30_0, hfz30_1, hfz30_2⟩ := bK3 (w := w27) BK137) | (go_at_call 85; (with_reducible refine (spec_FpSub.calls a1_1 a0_1 t138 _ A22.out).mono ?_); rintro e w' ⟨rfl, ⟨nd, rfl⟩⟩; (try exact tD)) | (go_at_call 85; (with_reducible refine (spec_FpSub.calls a1_0 a0_0 t139 _ A23.out).mono ?_); rintro e w' ⟨rfl, ⟨nd, rfl⟩⟩; (try exact tD)) | (go_at_call 131; (with_reducible refine (spec_FpInv.calls k t139 t140 _ A24.out).mono ?_); rintro e w' ⟨rfl, ⟨nd, rfl⟩⟩; (try exact tD)) | (go_at_call 84; (with_reducible refine (spec_FpMul.calls t138 t140 t141 _ A25.out).mono ?_); rintro e w' ⟨rfl, ⟨nd, rfl⟩⟩; (try exact tD))))
  go_ret2
  exact ⟨rR, bZ HB⟩
/-! ### spec_l07Add: function 89 -/
def spec_l07Add.f (k : Nat) (a0_0 : Int) (a0_1 : Int) (a0_2 : Bool) (a1_0 : Int) (a1_1 : Int) (a1_2 : Bool) : Option (Int × Int × Bool) := if a0_2 = true then (some (a1_0, a1_1, a1_2)) else (if a1_2 = true then (some (a0_0, a0_1, a0_2)) else ((spec_l07Slope.f k a0_0 a0_1 a0_2 a1_0 a1_1 a1_2).bind fun bt152 => (if bt152.2 = true then ((spec_FpMul.f bt152.1 bt152.1).bind fun t157 => ((spec_FpSub.f t157 a0_0).bind fun t158 => ((spec_FpSub.f t158 a1_0).bind fun t159 => ((spec_FpSub.f a0_0 t159).bind fun t160 => ((spec_FpMul.f bt152.1 t160).bind fun t161 => ((spec_FpSub.f t161 a0_1).bind fun t162 => (some (t159, t162, false)))))))) else ((spec_l07Zero.f).bind fun bt154 => (some (bt154.1, bt154.2.1, bt154.2.2))))))
theorem spec_l07Add.mono : ∀ a0 a1 a2 a3 a4 a5 k, LeO (spec_l07Add.f k a0 a1 a2 a3 a4 a5) (spec_l07Add.f (k + 1) a0 a1 a2 a3 a4 a5) := by
 intro a0 a1 a2 a3 a4 a5 k
 unfold spec_l07Add.f
 repeat' first
   | (with_reducible exact spec_l07Slope.mono _ _ _ _ _ _ _)
   | (with_reducible exact LeO.refl _)
   | (with_reducible exact LeO.none _)
   | (with_reducible refine LeO.ite ?_ ?_)
   | (with_reducible refine LeO.bind ?_ (fun _ => ?_))
   | exact spec_l07Slope.mono _ _ _ _ _ _ _
   | exact LeO.none _
   | refine LeO.ite ?_ ?_
   | refine LeO.bind ?_ (fun _ => ?_)
def spec_l07Add.T8 : Bool × List (List Nat × List Nat) := (true, [([], []), ([], []), ([0, 1], [0, 1]), ([], []), ([3], [3]), ([2, 4, 2], [2, 4]), ([], []), ([6], [6]), ([5, 7, 5], [5, 7]), ([8, 8, 0, 1, 2, 3, 4, 5, 6, 7, 8], [8])])
def spec_l07Add.B8 : List Nat := [0, 0, 3, 0, 8, 31, 0, 64, 255, 511]
theorem spec_l07Add.tab8 : rtab .any (opsOf Tryd.f89 8) = spec_l07Add.T8 := by kernel_rfl
theorem spec_l07Add.bits8 : waitsOk spec_l07Add.T8.2 spec_l07Add.B8 = true := by kernel_rfl
def spec_l07Add.T9 : Bool × List (List Nat × List Nat) := (true, [([], []), ([], []), ([], []), ([2], [2]), ([], []), ([3, 4], [3, 4]), ([1, 5, 5], [1, 5]), ([], []), ([7], [7]), ([6, 8, 6], [6, 8]), ([0, 9], [0, 9]), ([10, 9, 0, 1, 2, 3, 4, 5, 6, 7, 8, 9, 10], [10])])
def spec_l07Add.B9 : List Nat := [0, 0, 0, 4, 0, 28, 62, 0, 128, 510, 1023, 2047]
theorem spec_l07Add.tab9 : rtab .any (opsOf Tryd.f89 9) = spec_l07Add.T9 := by kernel_rfl
theorem spec_l07Add.bits9 : waitsOk spec_l07Add.T9.2 spec_l07Add.B9 = true := by kernel_rfl
set_option maxHeartbeats 8000000 in
set_option maxRecDepth 100000 in
theorem spec_l07Add.calls (k : Nat) (a0_0 : Int) (a0_1 : Int) (a0_2 : Bool) (a1_0 : Int) (a1_1 : Int) (a1_2 : Bool) (r1 : Int) (r2 : Int) (r3 : Bool) (w : World) (h : spec_l07Add.f k a0_0 a0_1 a0_2 a1_0 a1_1 a1_2 = some (r1, r2, r3)) :
  Calls Tryd.prog 89 #[.agg #[.int .i64 a0_0, .int .i64 a0_1, .bool a0_2], .agg #[.int .i64 a1_0, .int .i64 a1_1, .bool a1_2]] w fun e w' => e = .returned (.agg #[.int .i64 r1, .int .i64 r2, .bool r3]) ∧ Below w.heap.size w w' := by
 have hu23 := Tryd.underlying23
 have HB := Aside0.mk (Below.refl w.heap.size w)
 have H : (if a0_2 = true then (some (a1_0, a1_1, a1_2)) else (if a1_2 = true then (some (a0_0, a0_1, a0_2)) else ((spec_l07Slope.f k a0_0 a0_1 a0_2 a1_0 a1_1 a1_2).bind fun bt152 => (if bt152.2 = true then ((spec_FpMul.f bt152.1 bt152.1).bind fun t157 => ((spec_FpSub.f t157 a0_0).bind fun t158 => ((spec_FpSub.f t158 a1_0).bind fun t159 => ((spec_FpSub.f a0_0 t159).bind fun t160 => ((spec_FpMul.f bt152.1 t160).bind fun t161 => ((spec_FpSub.f t161 a0_1).bind fun t162 => (some (t159, t162, false)))))))) else ((spec_l07Zero.f).bind fun bt154 => (some (bt154.1, bt154.2.1, bt154.2.2))))))) = some (r1, r2, r3) := h
 clear h
 by_cases c3 : a0_2 = true
 ·subst c3
  rw [if_pos rfl] at H
  simp only [Option.some.injEq, Prod.mk.injEq] at H
  obtain ⟨rfl, rfl, rfl⟩ := H
  go_enter Tryd.func89, Tryd.ntmps89
  go_wp2_with (first | ((with_reducible refine gate_dst (N := 2) rfl ?_); refine bE 2 #[.int .i64 a0_0, .int .i64 a0_1, .bool true] 23 ?_; intro gb149 hg w4 hbox hb; have BK149 := Aside0.mk (hbox); have GW149 := bG HB hg; have GE149 := bG HB hg; replace HB := bS HB hb; clear hb hbox hg) | ((with_reducible refine gate_dst (N := 3) rfl ?_); refine bE 3 #[.int .i64 a1_0, .int .i64 a1_1, .bool a1_2] 23 ?_; intro gb150 hg w5 hbox hb; have BK150 := Aside0.mk (hbox); have GW150 := bG HB hg; have GE150 := bG HB hg; replace HB := bS HB hb; have NB149_150 := bL BK149 hg; have NB150_149 := bR BK149 hg; replace BK149 := bB BK149 hb; clear hb hbox hg) | ((with_reducible refine gate_dst (N := 4) rfl ?_); refine bE 4 #[.int .i64 0, .int .i64 0, .bool false] 23 ?_; intro gb151 hg w6 hbox hb; have BK151 := Aside0.mk (hbox); have GW151 := bG HB hg; have GE151 := bG HB hg; replace HB := bS HB hb; have NB149_151 := bL BK149 hg; have NB151_149 := bR BK149 hg; replace BK149 := bB BK149 hb; have NB150_151 := bL BK150 hg; have NB151_150 := bR BK150 hg; replace BK150 := bB BK150 hb; clear hb hbox hg; have hnb7 := NB149_150.out; have hnc7 := NB150_149.out; have hnb8 := NB149_151.out; have hnc8 := NB151_149.out; obtain ⟨hcz9_0, hcz9_1, hcz9_2, hfz9_0, hfz9_1, hfz9_2⟩ := bK3 (w := w6) BK149; have hnb10 := NB150_151.out; have hnc10 := NB151_150.out; obtain ⟨hcz11_0, hcz11_1, hcz11_2, hfz11_0, hfz11_1, hfz11_2⟩ := bK3 (w := w6) BK150; obtain ⟨hcz12_0, hcz12_1, hcz12_2, hfz12_0, hfz12_1, hfz12_2⟩ := bK3 (w := w6) BK151))
  refine rC gb151 23 #[.int .i64 a1_0, .int .i64 a1_1, .bool a1_2] (bU BK151) Tryd.underlying23 ?_
  exact ⟨rR, bZ HB⟩
 ·replace c3 := Bool.eq_false_iff.mpr c3
  subst c3
  rw [if_neg (show ¬ (false = true) by decide)] at H
  by_cases c13 : a1_2 = true
  ·subst c13
   rw [if_pos rfl] at H
   simp only [Option.some.injEq, Prod.mk.injEq] at H
   obtain ⟨rfl, rfl, rfl⟩ := H
   go_enter Tryd.func89, Tryd.ntmps89
   go_wp2_with (first | ((with_reducible refine gate_dst (N := 2) rfl ?_); refine bE 2 #[.int .i64 a0_0, .int .i64 a0_1, .bool false] 23 ?_; intro gb149 hg w14 hbox hb; have BK149 := Aside0.mk (hbox); have GW149 := bG HB hg; have GE149 := bG HB hg; replace HB := bS HB hb; clear hb hbox hg) | ((with_reducible refine gate_dst (N := 3) rfl ?_); refine bE 3 #[.int .i64 a1_0, .int .i64 a1_1, .bool true] 23 ?_; intro gb150 hg w15 hbox hb; have BK150 := Aside0.mk (hbox); have GW150 := bG HB hg; have GE150 := bG HB hg; replace HB := bS HB hb; have NB149_150 := bL BK149 hg; have NB150_149 := bR BK149 hg; replace BK149 := bB BK149 hb; clear hb hbox hg) | ((with_reducible refine gate_dst (N := 4) rfl ?_); refine bE 4 #[.int .i64 0, .int .i64 0, .bool false] 23 ?_; intro gb151 hg w16 hbox hb; have BK151 := Aside0.mk (hbox); have GW151 := bG HB hg; have GE151 := bG HB hg; replace HB := bS HB hb; have NB149_151 := bL BK149 hg; have NB151_149 := bR BK149 hg; replace BK149 := bB BK149 hb; have NB150_151 := bL BK150 hg; have NB151_150 := bR BK150 hg; replace BK150 := bB BK150 hb; clear hb hbox hg; have hnb17 := NB149_150.out; have hnc17 := NB150_149.out; have hnb18 := NB149_151.out; have hnc18 := NB151_149.out; obtain ⟨hcz19_0, hcz19_1, hcz19_2, hfz19_0, hfz19_1, hfz19_2⟩ := bK3 (w := w16) BK149; have hnb20 := NB150_151.out; have hnc20 := NB151_150.out; obtain ⟨hcz21_0, hcz21_1, hcz21_2, hfz21_0, hfz21_1, hfz21_2⟩ := bK3 (w := w16) BK150; obtain ⟨hcz22_0, hcz22_1, hcz22_2, hfz22_0, hfz22_1, hfz22_2⟩ := bK3 (w := w16) BK151))
   refine rC gb151 23 #[.int .i64 a0_0, .int .i64 a0_1, .bool false] (bU BK151) Tryd.underlying23 ?_
   exact ⟨rR, bZ HB⟩
  ·replace c13 := Bool.eq_false_iff.mpr c13
   subst c13
   rw [if_neg (show ¬ (false = true) by decide)] at H
   replace H := Option.bind_eq_some_iff.mp H
   obtain ⟨⟨t152, t153⟩, A230, H⟩ := H
   have A23 := Aside0.mk A230
   clear A230
   by_cases c24 : t153 = true
   ·subst c24
    rw [if_pos rfl] at H
    replace H := Option.bind_eq_some_iff.mp H
    obtain ⟨t157, A250, H⟩ := H
    have A25 := Aside0.mk A250
    clear A250
    replace H := Option.bind_eq_some_iff.mp H
    obtain ⟨t158, A260, H⟩ := H
    have A26 := Aside0.mk A260
    clear A260
    replace H := Option.bind_eq_some_iff.mp H
    obtain ⟨t159, A270, H⟩ := H
    have A27 := Aside0.mk A270
    clear A270
    replace H := Option.bind_eq_some_iff.mp H
    obtain ⟨t160, A280, H⟩ := H
    have A28 := Aside0.mk A280
    clear A280
    replace H := Option.bind_eq_some_iff.mp H
    obtain ⟨t161, A290, H⟩ := H
    have A29 := Aside0.mk A290
    clear A290
    replace H := Option.bind_eq_some_iff.mp H
    obtain ⟨t162, A300, H⟩ := H
    have A30 := Aside0.mk A300
    clear A300
    simp only [Option.some.injEq, Prod.mk.injEq] at H
    obtain ⟨rfl, rfl, rfl⟩ := H
    go_enter Tryd.func89, Tryd.ntmps89
    try go_wp2_with (first | ((with_reducible refine gate_dst (N := 2) rfl ?_); refine bE 2 #[.int .i64 a0_0, .int .i64 a0_1, .bool false] 23 ?_; intro gb149 hg w31 hbox hb; have BK149 := Aside0.mk (hbox); have GW149 := bG HB hg; have GE149 := bG HB hg; replace HB := bS HB hb; clear hb hbox hg) | ((with_reducible refine gate_dst (N := 3) rfl ?_); refine bE 3 #[.int .i64 a1_0, .int .i64 a1_1, .bool false] 23 ?_; intro gb150 hg w32 hbox hb; have BK150 := Aside0.mk (hbox); have GW150 := bG HB hg; have GE150 := bG HB hg; replace HB := bS HB hb; have NB149_150 := bL BK149 hg; have NB150_149 := bR BK149 hg; replace BK149 := bB BK149 hb; clear hb hbox hg) | ((with_reducible refine gate_dst (N := 4) rfl ?_); refine bE 4 #[.int .i64 0, .int .i64 0, .bool false] 23 ?_; intro gb151 hg w33 hbox hb; have BK151 := Aside0.mk (hbox); have GW151 := bG HB hg; have GE151 := bG HB hg; replace HB := bS HB hb; have NB149_151 := bL BK149 hg; have NB151_149 := bR BK149 hg; replace BK149 := bB BK149 hb; have NB150_151 := bL BK150 hg; have NB151_150 := bR BK150 hg; replace BK150 := bB BK150 hb; clear hb hbox hg; have hnb34 := NB149_150.out; have hnc34 := NB150_149.out; have hnb35 := NB149_151.out; have hnc35 := NB151_149.out; obtain ⟨hcz36_0, hcz36_1, hcz36_2, hfz36_0, hfz36_1, hfz36_2⟩ := bK3 (w := w33) BK149; have hnb37 := NB150_151.out; have hnc37 := NB151_150.out; obtain ⟨hcz38_0, hcz38_1, hcz38_2, hfz38_0, hfz38_1, hfz38_2⟩ := bK3 (w := w33) BK150) | ((with_reducible refine gate_callee (f := 120) rfl ?_); refine gL (some 17) Tryd.func120 #[.agg #[.int .i64 a0_0, .int .i64 a0_1, .bool false], .agg #[.int .i64 a1_0, .int .i64 a1_1, .bool false]] ?_; (with_reducible refine (spec_l07Slope.calls k a0_0 a0_1 false a1_0 a1_1 false t152 true _ A23.out).mono ?_); rintro e w39 ⟨rfl, hb⟩; refine ⟨_, rfl, ?_⟩; replace BK149 := bB BK149 hb; replace BK150 := bB BK150 hb; replace BK151 := bB BK151 hb; replace HB := bS HB hb; (try clear hb)))
    replace BK149 := Aside0.mk (blk_drew BK149.out)
    replace BK150 := Aside0.mk (blk_drew BK150.out)
    replace BK151 := Aside0.mk (blk_drew BK151.out)
    replace HB := Aside0.mk (below_drew1 HB.out)
    refine start_ (n := 10) (S := fun w' => w'.cell? ⟨gb149, 0, none⟩ = some (.int .i64 a0_0) ∧ w'.cell? ⟨gb149, 1, none⟩ = some (.int .i64 a0_1) ∧ w'.cell? ⟨gb149, 2, none⟩ = some (.bool false) ∧ w'.cell? ⟨gb150, 0, none⟩ = some (.int .i64 a1_0) ∧ w'.cell? ⟨gb150, 1, none⟩ = some (.int .i64 a1_1) ∧ w'.cell? ⟨gb150, 2, none⟩ = some (.bool false)) (ds := []) #[false, false, false, false, false, false, false, false, false, false] (by kernel_rfl) rfl rfl ⟨bc BK149 0, bc BK149 1, bc BK149 2, bc BK150 0, bc BK150 1, bc BK150 2⟩ (fun hHeld => ?_); refine with_tabW spec_l07Add.tab8 spec_l07Add.bits8 (fun HT_ HW_ => ?_)
    generalize w39.drew = w40 at BK149 BK150 BK151 HB hHeld ⊢
    refine pI 0 (some 23) HT_.out ?_
    refine pI 1 (some 24) HT_.out ?_
    refine pI 3 (some 26) HT_.out ?_
    refine pI 6 (some 29) HT_.out ?_
    refine tI6 4 (some 27) HT_.out HW_.out hHeld ?_
    refine tI6 7 (some 30) HT_.out HW_.out hHeld ?_
    refine oI 2 (some 25) HT_.out (fun K hK => ?_)
    refine gO Tryd.func84 #[.int .i64 t152, .int .i64 t152] ?_
    with_reducible refine (spec_FpMul.calls t152 t152 t157 _ A25.out).mono ?_
    rintro e w' ⟨rfl, ⟨nd, rfl⟩⟩
    refine ⟨_, rfl, ?_⟩
    refine hK.out _ _ ⟨bc BK149 0, bc BK149 1, bc BK149 2, bc BK150 0, bc BK150 1, bc BK150 2⟩ (fun hHeld => ?_)
    clear hK K
    refine nO (some 25) ?_
    refine oI 5 (some 28) HT_.out (fun K hK => ?_)
    refine gO Tryd.func85 #[.int .i64 t157, .int .i64 a0_0] ?_
    with_reducible refine (spec_FpSub.calls t157 a0_0 t158 _ A26.out).mono ?_
    rintro e w' ⟨rfl, ⟨nd, rfl⟩⟩
    refine ⟨_, rfl, ?_⟩
    refine hK.out _ _ ⟨bc BK149 0, bc BK149 1, bc BK149 2, bc BK150 0, bc BK150 1, bc BK150 2⟩ (fun hHeld => ?_)
    clear hK K
    refine nO (some 28) ?_
    refine oI 8 (some 31) HT_.out (fun K hK => ?_)
    refine gO Tryd.func85 #[.int .i64 t158, .int .i64 a1_0] ?_
    with_reducible refine (spec_FpSub.calls t158 a1_0 t159 _ A27.out).mono ?_
    rintro e w' ⟨rfl, ⟨nd, rfl⟩⟩
    refine ⟨_, rfl, ?_⟩
    refine hK.out _ _ ⟨bc BK149 0, bc BK149 1, bc BK149 2, bc BK150 0, bc BK150 1, bc BK150 2⟩ (fun hHeld => ?_)
    clear hK K
    refine nO (some 31) ?_
    refine pI 9 (some 7) HT_.out ?_
    refine done_ (done_of HT_.out (by kernel_rfl)) ?_
    try go_wp2
    (try simp only [World.drewN_drewN]); (try (rw [drewN_self w40]; generalize hq_ : World.drewN w40 _ = w40; replace BK149 : Aside0 (w40.heap[gb149]? = some (.cells #[.int .i64 a0_0, .int .i64 a0_1, .bool false] 23 (0, 0))) := ⟨by rw [← hq_]; exact (bP BK149)⟩; replace BK150 : Aside0 (w40.heap[gb150]? = some (.cells #[.int .i64 a1_0, .int .i64 a1_1, .bool false] 23 (0, 0))) := ⟨by rw [← hq_]; exact (bP BK150)⟩; replace BK151 : Aside0 (w40.heap[gb151]? = some (.cells #[.int .i64 0, .int .i64 0, .bool false] 23 (0, 0))) := ⟨by rw [← hq_]; exact (bP BK151)⟩; replace HB : Aside0 (Below w.heap.size w w40) := ⟨by rw [← hq_]; exact (bZ HB)⟩; clear hq_))
    replace BK149 := Aside0.mk (blk_drew BK149.out)
    replace BK150 := Aside0.mk (blk_drew BK150.out)
    replace BK151 := Aside0.mk (blk_drew BK151.out)
    replace HB := Aside0.mk (below_drew1 HB.out)
    refine start_ (n := 12) (S := fun w' => w'.cell? ⟨gb149, 0, none⟩ = some (.int .i64 a0_0) ∧ w'.cell? ⟨gb149, 1, none⟩ = some (.int .i64 a0_1) ∧ w'.cell? ⟨gb149, 2, none⟩ = some (.bool false)) (ds := []) #[false, false, false, false, false, false, false, false, false, false, false, false] (by kernel_rfl) rfl rfl ⟨bc BK149 0, bc BK149 1, bc BK149 2⟩ (fun hHeld => ?_); refine with_tabW spec_l07Add.tab9 spec_l07Add.bits9 (fun HT_ HW_ => ?_)
    generalize w40.drew = w41 at BK149 BK150 BK151 HB hHeld ⊢
    refine pI 0 (some 32) HT_.out ?_
    refine pI 1 (some 33) HT_.out ?_
    refine pI 2 (some 34) HT_.out ?_
    refine pI 4 (some 36) HT_.out ?_
    refine pI 7 (some 39) HT_.out ?_
    refine tI3 3 (some 35) HT_.out HW_.out hHeld ?_
    refine tI3 8 (some 40) HT_.out HW_.out hHeld ?_
    refine oI 5 (some 37) HT_.out (fun K hK => ?_)
    refine gO Tryd.func85 #[.int .i64 a0_0, .int .i64 t159] ?_
    with_reducible refine (spec_FpSub.calls a0_0 t159 t160 _ A28.out).mono ?_
    rintro e w' ⟨rfl, ⟨nd, rfl⟩⟩
    refine ⟨_, rfl, ?_⟩
    refine hK.out _ _ ⟨bc BK149 0, bc BK149 1, bc BK149 2⟩ (fun hHeld => ?_)
    clear hK K
    refine nO (some 37) ?_
    refine oI 6 (some 38) HT_.out (fun K hK => ?_)
    refine gO Tryd.func84 #[.int .i64 t152, .int .i64 t160] ?_
    with_reducible refine (spec_FpMul.calls t152 t160 t161 _ A29.out).mono ?_
    rintro e w' ⟨rfl, ⟨nd, rfl⟩⟩
    refine ⟨_, rfl, ?_⟩
    refine hK.out _ _ ⟨bc BK149 0, bc BK149 1, bc BK149 2⟩ (fun hHeld => ?_)
    clear hK K
    refine nO (some 38) ?_
    refine oI 9 (some 41) HT_.out (fun K hK => ?_)
    refine gO Tryd.func85 #[.int .i64 t161, .int .i64 a0_1] ?_
    with_reducible refine (spec_FpSub.calls t161 a0_1 t162 _ A30.out).mono ?_
    rintro e w' ⟨rfl, ⟨nd, rfl⟩⟩
    refine ⟨_, rfl, ?_⟩
    refine hK.out _ _ ⟨bc BK149 0, bc BK149 1, bc BK149 2⟩ (fun hHeld => ?_)
    clear hK K
    refine nO (some 41) ?_
    refine pI 10 (some 42) HT_.out ?_
    refine oI 11 (none) HT_.out (fun K hK => ?_)
    have hs42 : w41.cell? ⟨gb151, 0, none⟩ = some (.int .i64 0) := bc BK151 0
    have hfs42 := blk_frozen BK151.out 0
    have hns42_0 := NB149_151.out
    have hns42_1 := NB150_151.out
    have hms42_0 := NB151_149.out
    have hms42_1 := NB151_150.out
    have hs43 : w41.cell? ⟨gb151, 1, none⟩ = some (.int .i64 0) := bc BK151 1
    have hfs43 := blk_frozen BK151.out 1
    have hns43_0 := NB149_151.out
    have hns43_1 := NB150_151.out
    have hms43_0 := NB151_149.out
    have hms43_1 := NB151_150.out
    have hs44 : w41.cell? ⟨gb151, 2, none⟩ = some (.bool false) := bc BK151 2
    have hfs44 := blk_frozen BK151.out 2
    have hns44_0 := NB149_151.out
    have hns44_1 := NB150_151.out
    have hms44_0 := NB151_149.out
    have hms44_1 := NB151_150.out
    refine skip_ (w1 := ?_) (by rfl) rfl ?_ ?_
    rotate_left
    ·go_simp
     rfl
    refine hK.out _ _ ⟨((cell_far (p := ⟨gb151, _, none⟩) NB149_151.out _).trans (((cell_far (p := ⟨gb151, _, none⟩) NB149_151.out _).trans (((cell_far (p := ⟨gb151, _, none⟩) NB149_151.out _).trans (hHeld.1)))))), ((cell_far (p := ⟨gb151, _, none⟩) NB149_151.out _).trans (((cell_far (p := ⟨gb151, _, none⟩) NB149_151.out _).trans (((cell_far (p := ⟨gb151, _, none⟩) NB149_151.out _).trans (hHeld.2.1)))))), ((cell_far (p := ⟨gb151, _, none⟩) NB149_151.out _).trans (((cell_far (p := ⟨gb151, _, none⟩) NB149_151.out _).trans (((cell_far (p := ⟨gb151, _, none⟩) NB149_151.out _).trans (hHeld.2.2))))))⟩ (fun hHeld => ?_)
    clear hK K
    refine done_ (done_of HT_.out (by kernel_rfl)) ?_
    try go_wp2
    refine rC gb151 23 #[.int .i64 t159, .int .i64 t162, .bool false] (bU BK151) Tryd.underlying23 ?_
    exact ⟨rR, bZ HB⟩
   ·replace c24 := Bool.eq_false_iff.mpr c24
    subst c24
    rw [if_neg (show ¬ (false = true) by decide)] at H
    replace H := Option.bind_eq_some_iff.mp H
    obtain ⟨⟨t154, t155, t156⟩, A450, H⟩ := H
    have A45 := Aside0.mk A450
    clear A450
    simp only [Option.some.injEq, Prod.mk.injEq] at H
    obtain ⟨rfl, rfl, rfl⟩ := H
    go_enter Tryd.func89, Tryd.ntmps89
    go_wp2_with (first | ((with_reducible refine gate_dst (N := 2) rfl ?_); refine bE 2 #[.int .i64 a0_0, .int .i64 a0_1, .bool false] 23 ?_; intro gb149 hg w46 hbox hb; have BK149 := Aside0.mk (hbox); have GW149 := bG HB hg; have GE149 := bG HB hg; replace HB := bS HB hb; clear hb hbox hg) | ((with_reducible refine gate_dst (N := 3) rfl ?_); refine bE 3 #[.int .i64 a1_0, .int .i64 a1_1, .bool false] 23 ?_; intro gb150 hg w47 hbox hb; have BK150 := Aside0.mk (hbox); have GW150 := bG HB hg; have GE150 := bG HB hg; replace HB := bS HB hb; have NB149_150 := bL BK149 hg; have NB150_149 := bR BK149 hg; replace BK149 := bB BK149 hb; clear hb hbox hg) | ((with_reducible refine gate_dst (N := 4) rfl ?_); refine bE 4 #[.int .i64 0, .int .i64 0, .bool false] 23 ?_; intro gb151 hg w48 hbox hb; have BK151 := Aside0.mk (hbox); have GW151 := bG HB hg; have GE151 := bG HB hg; replace HB := bS HB hb; have NB149_151 := bL BK149 hg; have NB151_149 := bR BK149 hg; replace BK149 := bB BK149 hb; have NB150_151 := bL BK150 hg; have NB151_150 := bR BK150 hg; replace BK150 := bB BK150 hb; clear hb hbox hg; have hnb49 := NB149_150.out; have hnc49 := NB150_149.out; have hnb50 := NB149_151.out; have hnc50 := NB151_149.out; obtain ⟨hcz51_0, hcz51_1, hcz51_2, hfz51_0, hfz51_1, hfz51_2⟩ := bK3 (w := w48) BK149; have hnb52 := NB150_151.out; have hnc52 := NB151_150.out; obtain ⟨hcz53_0, hcz53_1, hcz53_2, hfz53_0, hfz53_1, hfz53_2⟩ := bK3 (w := w48) BK150) | ((with_reducible refine gate_callee (f := 120) rfl ?_); refine gL (some 17) Tryd.func120 #[.agg #[.int .i64 a0_0, .int .i64 a0_1, .bool false], .agg #[.int .i64 a1_0, .int .i64 a1_1, .bool false]] ?_; (with_reducible refine (spec_l07Slope.calls k a0_0 a0_1 false a1_0 a1_1 false t152 false _ A23.out).mono ?_); rintro e w54 ⟨rfl, hb⟩; refine ⟨_, rfl, ?_⟩; replace BK149 := bB BK149 hb; replace BK150 := bB BK150 hb; replace BK151 := bB BK151 hb; replace HB := bS HB hb; (try clear hb)) | ((with_reducible refine gate_callee (f := 56) rfl ?_); refine gL (some 22) Tryd.func56 #[] ?_; (with_reducible refine (spec_l07Zero.calls  t154 t155 t156 _ A45.out).mono ?_); rintro e w55 ⟨rfl, hb⟩; refine ⟨_, rfl, ?_⟩; replace BK149 := bB BK149 hb; replace BK150 := bB BK150 hb; replace BK151 := bB BK151 hb; replace HB := bS HB hb; (try clear hb); obtain ⟨hcz56_0, hcz56_1, hcz56_2, hfz56_0, hfz56_1, hfz56_2⟩ := bK3 (w := w55) BK151))
    refine rC gb151 23 #[.int .i64 t154, .int .i64 t155, .bool t156] (bU BK151) Tryd.underlying23 ?_
    exact ⟨rR, bZ HB⟩
end Go.Proofs.YtkdmplfldfagnaaDoor.Pf
end
section
namespace Go.Proofs.YtkdmplfldfagnaaDoor.Pf
open Go.RowKit Go.Proofs.YtkdmplfldfagnaaDoorW.PrintWords Go.Proofs.YtkdmplfldfagnaaDoorW.PrintLast Go.Proofs.YtkdmplfldfagnaaDoorW.PrintMore
attribute [local go_sem] max2_int min2_int max_two min_two max_three min_three max_four min_four   -- for this text's walks alone
set_option linter.unusedVariables false
set_option linter.unusedSimpArgs false

/-! ### spec_PointTimes: function 45 -/
mutual
def spec_PointTimes.j0 : Nat → Int → Int → Int → Bool → Option (Int × Int × Bool)
 | 0, _, _, _, _ => none
 | k + 1, x5, x170000, x170001, x170002 => (spec_l07Zero.f).bind fun bt173 => (spec_PointTimes.l0 k x5 x170000 x170001 x170002 bt173.1 bt173.2.1 bt173.2.2)
def spec_PointTimes.l0 : Nat → Int → Int → Int → Bool → Int → Int → Bool → Option (Int × Int × Bool)
 | 0, _, _, _, _, _, _, _ => none
 | k + 1, x5, x170000, x170001, x170002, x177000, x177001, x177002 => if x5 > 0 then (if (Int.tmod x5 2) = 1 then ((spec_l07Add.f k x177000 x177001 x177002 x170000 x170001 x170002).bind fun bt177 => ((spec_l07Add.f k x170000 x170001 x170002 x170000 x170001 x170002).bind fun bt180 => (spec_PointTimes.l0 k (wrap64 (Int.tdiv x5 2)) bt180.1 bt180.2.1 bt180.2.2 bt177.1 bt177.2.1 bt177.2.2))) else ((spec_l07Add.f k x170000 x170001 x170002 x170000 x170001 x170002).bind fun bt183 => (spec_PointTimes.l0 k (wrap64 (Int.tdiv x5 2)) bt183.1 bt183.2.1 bt183.2.2 x177000 x177001 x177002))) else (some (x177000, x177001, x177002))
end
def spec_PointTimes.f (k : Nat) (a0 : Int) (a1_0 : Int) (a1_1 : Int) (a1_2 : Bool) : Option (Int × Int × Bool) := (spec_PointOk.f a1_0 a1_1 a1_2).bind fun t165 => (if t165 = true then (if (Int.tmod a0 12108) < 0 then ((spec_PointNeg.f a1_0 a1_1 a1_2).bind fun bt170 => (spec_PointTimes.j0 k (wrap64 (-(Int.tmod a0 12108))) bt170.1 bt170.2.1 bt170.2.2)) else (spec_PointTimes.j0 k (Int.tmod a0 12108) a1_0 a1_1 a1_2)) else ((spec_l07Zero.f).bind fun bt166 => (some (bt166.1, bt166.2.1, bt166.2.2))))
theorem spec_PointTimes.mono_l : ∀ k, (∀ y0 y1 y2 y3, LeO (spec_PointTimes.j0 k y0 y1 y2 y3) (spec_PointTimes.j0 (k + 1) y0 y1 y2 y3)) ∧ (∀ y0 y1 y2 y3 y4 y5 y6, LeO (spec_PointTimes.l0 k y0 y1 y2 y3 y4 y5 y6) (spec_PointTimes.l0 (k + 1) y0 y1 y2 y3 y4 y5 y6))
 | 0 => ⟨fun _ _ _ _ r h => by simp [spec_PointTimes.j0] at h, fun _ _ _ _ _ _ _ r h => by simp [spec_PointTimes.l0] at h⟩
 | k + 1 => by
  obtain ⟨ih0, ih1⟩ := spec_PointTimes.mono_l k
  refine ⟨?_, ?_⟩
  ·intro y0 y1 y2 y3
   unfold spec_PointTimes.j0
   repeat' first
   | (with_reducible exact ih0 _ _ _ _)
   | (with_reducible exact ih1 _ _ _ _ _ _ _)
   | (with_reducible exact spec_l07Add.mono _ _ _ _ _ _ _)
   | (with_reducible exact LeO.refl _)
   | (with_reducible exact LeO.none _)
   | (with_reducible refine LeO.ite ?_ ?_)
   | (with_reducible refine LeO.bind ?_ (fun _ => ?_))
   | exact ih0 _ _ _ _
   | exact ih1 _ _ _ _ _ _ _
   | exact spec_l07Add.mono _ _ _ _ _ _ _
   | exact LeO.none _
   | refine LeO.ite ?_ ?_
   | refine LeO.bind ?_ (fun _ => ?_)
  ·intro y0 y1 y2 y3 y4 y5 y6
   unfold spec_PointTimes.l0
   repeat' first
   | (with_reducible exact ih0 _ _ _ _)
   | (with_reducible exact ih1 _ _ _ _ _ _ _)
   | (with_reducible exact spec_l07Add.mono _ _ _ _ _ _ _)
   | (with_reducible exact LeO.refl _)
   | (with_reducible exact LeO.none _)
   | (with_reducible refine LeO.ite ?_ ?_)
   | (with_reducible refine LeO.bind ?_ (fun _ => ?_))
   | exact ih0 _ _ _ _
   | exact ih1 _ _ _ _ _ _ _
   | exact spec_l07Add.mono _ _ _ _ _ _ _
   | exact LeO.none _
   | refine LeO.ite ?_ ?_
   | refine LeO.bind ?_ (fun _ => ?_)
theorem spec_PointTimes.mono : ∀ a0 a1 a2 a3 k, LeO (spec_PointTimes.f k a0 a1 a2 a3) (spec_PointTimes.f (k + 1) a0 a1 a2 a3) := by
 intro a0 a1 a2 a3 k
 obtain ⟨ih0, ih1⟩ := spec_PointTimes.mono_l k
 unfold spec_PointTimes.f
 repeat' first
   | (with_reducible exact ih0 _ _ _ _)
   | (with_reducible exact ih1 _ _ _ _ _ _ _)
   | (with_reducible exact spec_l07Add.mono _ _ _ _ _ _ _)
   | (with_reducible exact LeO.refl _)
   | (with_reducible exact LeO.none _)
   | (with_reducible refine LeO.ite ?_ ?_)
   | (with_reducible refine LeO.bind ?_ (fun _ => ?_))
   | exact ih0 _ _ _ _
   | exact ih1 _ _ _ _ _ _ _
   | exact spec_l07Add.mono _ _ _ _ _ _ _
   | exact LeO.none _
   | refine LeO.ite ?_ ?_
   | refine LeO.bind ?_ (fun _ => ?_)
set_option maxHeartbeats 8000000 in
set_option maxRecDepth 100000 in
theorem spec_PointTimes.calls (k : Nat) (a0 : Int) (a1_0 : Int) (a1_1 : Int) (a1_2 : Bool) (r1 : Int) (r2 : Int) (r3 : Bool) (w : World) (h : spec_PointTimes.f k a0 a1_0 a1_1 a1_2 = some (r1, r2, r3)) :
  Calls Tryd.prog 45 #[.int .i64 a0, .agg #[.int .i64 a1_0, .int .i64 a1_1, .bool a1_2]] w fun e w' => e = .returned (.agg #[.int .i64 r1, .int .i64 r2, .bool r3]) ∧ Below w.heap.size w w' := by
 have hu23 := Tryd.underlying23
 have HB := Aside0.mk (Below.refl w.heap.size w)
 have H : ((spec_PointOk.f a1_0 a1_1 a1_2).bind fun t165 => (if t165 = true then (if (Int.tmod a0 12108) < 0 then ((spec_PointNeg.f a1_0 a1_1 a1_2).bind fun bt170 => (spec_PointTimes.j0 k (wrap64 (-(Int.tmod a0 12108))) bt170.1 bt170.2.1 bt170.2.2)) else (spec_PointTimes.j0 k (Int.tmod a0 12108) a1_0 a1_1 a1_2)) else ((spec_l07Zero.f).bind fun bt166 => (some (bt166.1, bt166.2.1, bt166.2.2))))) = some (r1, r2, r3) := h
 clear h
 replace H := Option.bind_eq_some_iff.mp H
 obtain ⟨t165, A30, H⟩ := H
 have A3 := Aside0.mk A30
 clear A30
 by_cases c4 : t165 = true
 ·subst c4
  rw [if_pos rfl] at H
  have HC5 := Aside0.mk H
  clear H
  go_enter Tryd.func45, Tryd.ntmps45
  go_upto_if 16 with (first | ((with_reducible refine gate_dst (N := 3) rfl ?_); refine bE 3 #[.int .i64 a1_0, .int .i64 a1_1, .bool a1_2] 23 ?_; intro gb163 hg w6 hbox hb; have BK163 := Aside0.mk (hbox); have GW163 := bG HB hg; have GE163 := bG HB hg; replace HB := bS HB hb; clear hb hbox hg) | ((with_reducible refine gate_dst (N := 4) rfl ?_); refine bE 4 #[.int .i64 0, .int .i64 0, .bool false] 23 ?_; intro gb164 hg w7 hbox hb; have BK164 := Aside0.mk (hbox); have GW164 := bG HB hg; have GE164 := bG HB hg; replace HB := bS HB hb; have NB163_164 := bL BK163 hg; have NB164_163 := bR BK163 hg; replace BK163 := bB BK163 hb; clear hb hbox hg; have hnb8 := NB163_164.out; have hnc8 := NB164_163.out; obtain ⟨hcz9_0, hcz9_1, hcz9_2, hfz9_0, hfz9_1, hfz9_2⟩ := bK3 (w := w7) BK163) | ((with_reducible refine gate_callee (f := 87) rfl ?_); refine gL (some 9) Tryd.func87 #[.agg #[.int .i64 a1_0, .int .i64 a1_1, .bool a1_2]] ?_; (with_reducible refine (spec_PointOk.calls a1_0 a1_1 a1_2 true _ A3.out).mono ?_); rintro e w10 ⟨rfl, hb⟩; refine ⟨_, rfl, ?_⟩; replace BK163 := bB BK163 hb; replace BK164 := bB BK164 hb; replace HB := bS HB hb; (try clear hb); obtain ⟨hcz11_0, hcz11_1, hcz11_2, hfz11_0, hfz11_1, hfz11_2⟩ := bK3 (w := w10) BK163) | ((with_reducible refine gate_dst (N := 6) rfl ?_); refine bE 6 #[.int .i64 0, .int .i64 0, .bool false] 23 ?_; intro gb169 hg w12 hbox hb; have BK169 := Aside0.mk (hbox); have GW169 := bG HB hg; have GE169 := bG HB hg; replace HB := bS HB hb; have NB163_169 := bL BK163 hg; have NB169_163 := bR BK163 hg; replace BK163 := bB BK163 hb; have NB164_169 := bL BK164 hg; have NB169_164 := bR BK164 hg; replace BK164 := bB BK164 hb; clear hb hbox hg; have hnb13 := NB169_163.out; have hnc13 := NB163_169.out; have hnb14 := NB169_164.out; have hnc14 := NB164_169.out; obtain ⟨hcz15_0, hcz15_1, hcz15_2, hfz15_0, hfz15_1, hfz15_2⟩ := bK3 (w := w12) BK169))
  (try simp only [Act.put, List.setIfInBounds_toArray, List.set_cons_zero, List.set_cons_succ])
  go_cut [5] (fun v5 wc => ∃ (kq : Nat) (x5_4 : Int) (x170000_4 : Int) (x170001_4 : Int) (x170002_4 : Bool), v5 = .int .i64 x5_4 ∧ Aside0 (spec_PointTimes.j0 kq x5_4 x170000_4 x170001_4 x170002_4 = some (r1, r2, r3)) ∧ Aside0 (kq ≤ k) ∧ Aside0 (wc.heap[gb163]? = some (.cells #[.int .i64 a1_0, .int .i64 a1_1, .bool a1_2] 23 (0, 0))) ∧ Aside0 (wc.heap[gb164]? = some (.cells #[.int .i64 0, .int .i64 0, .bool false] 23 (0, 0))) ∧ Aside0 (wc.heap[gb169]? = some (.cells #[.int .i64 x170000_4, .int .i64 x170001_4, .bool x170002_4] 23 (0, 0))) ∧ Aside0 (Below w.heap.size w wc))
  case first =>
   have H := HC5.out
   clear HC5
   by_cases c16 : (Int.tmod a0 12108) < 0
   ·rw [if_pos c16] at H
    have c16b0 : decide ((Int.tmod a0 12108) < 0) = true := decide_eq_true c16
    clear c16
    (first | rw [c16b0] | (simp only [i64_w, i32_w]; rw [c16b0]) | rw [c16b1] | skip)
    replace H := Option.bind_eq_some_iff.mp H
    obtain ⟨⟨t170, t171, t172⟩, A170, H⟩ := H
    have A17 := Aside0.mk A170
    clear A170
    have H' := Aside0.mk H
    clear H
    have hnb18 := NB163_164.out
    have hnc18 := NB164_163.out
    have hnb19 := NB163_169.out
    have hnc19 := NB169_163.out
    obtain ⟨hcz20_0, hcz20_1, hcz20_2, hfz20_0, hfz20_1, hfz20_2⟩ := bK3 (w := w12) BK163
    go_wp2_with (first | ((with_reducible refine gate_callee (f := 88) rfl ?_); refine gL (some 20) Tryd.func88 #[.agg #[.int .i64 a1_0, .int .i64 a1_1, .bool a1_2]] ?_; (with_reducible refine (spec_PointNeg.calls a1_0 a1_1 a1_2 t170 t171 t172 _ A17.out).mono ?_); rintro e w21 ⟨rfl, hb⟩; refine ⟨_, rfl, ?_⟩; replace BK163 := bB BK163 hb; replace BK164 := bB BK164 hb; replace BK169 := bV 23 #[.int .i64 a1_0, .int .i64 a1_1, .bool a1_2] BK169 hb; replace HB := bS HB hb; (try clear hb); have hnb22 := NB169_164.out; have hnc22 := NB164_169.out; obtain ⟨hcz23_0, hcz23_1, hcz23_2, hfz23_0, hfz23_1, hfz23_2⟩ := bK3 (w := w21) BK169))
    go_meet
    case rel => exact ⟨_, (wrap64 (-(Int.tmod a0 12108))), (t170), (t171), (t172), rS, H', ⟨by first | omega | exact Nat.le_refl _⟩, ⟨bP BK163⟩, ⟨bP BK164⟩, ⟨bU BK169⟩, ⟨bZ HB⟩⟩
   ·rw [if_neg c16] at H
    have c16b0 : decide ((Int.tmod a0 12108) < 0) = false := decide_eq_false c16
    clear c16
    (first | rw [c16b0] | (simp only [i64_w, i32_w]; rw [c16b0]) | rw [c16b1] | skip)
    have H' := Aside0.mk H
    clear H
    go_wp2
    go_meet
    case rel => exact ⟨_, (Int.tmod a0 12108), (a1_0), (a1_1), (a1_2), rS, H', ⟨by first | omega | exact Nat.le_refl _⟩, ⟨bP BK163⟩, ⟨bP BK164⟩, ⟨bU BK169⟩, ⟨bZ HB⟩⟩
  case rest =>
   clear HC5
   try clear c1
   try clear c2
   try clear p2
   try clear c4
   try clear p6
   try clear c8
   try clear c13
   try clear c14
   try clear c16
   try clear c16b0
   try clear c18
   try clear c19
   try clear c22
   try clear hcz11_0
   try clear hcz11_1
   try clear hcz11_2
   try clear hcz15_0
   try clear hcz15_1
   try clear hcz15_2
   try clear hcz20_0
   try clear hcz20_1
   try clear hcz20_2
   try clear hcz23_0
   try clear hcz23_1
   try clear hcz23_2
   try clear hcz9_0
   try clear hcz9_1
   try clear hcz9_2
   try clear hfz11_0
   try clear hfz11_1
   try clear hfz11_2
   try clear hfz15_0
   try clear hfz15_1
   try clear hfz15_2
   try clear hfz20_0
   try clear hfz20_1
   try clear hfz20_2
   try clear hfz23_0
   try clear hfz23_1
   try clear hfz23_2
   try clear hfz9_0
   try clear hfz9_1
   try clear hfz9_2
   obtain ⟨kq, x5_4, x170000_4, x170001_4, x170002_4, rfl, HA, HJ4, BK163, BK164, BK169, HB⟩ := hcut
   cases kq with
   | zero => exact absurd HA.out (by simp [spec_PointTimes.j0])
   | succ kj4 =>
    have H := HA.out
    clear HA
    simp only [spec_PointTimes.j0] at H
    replace H := Option.bind_eq_some_iff.mp H
    obtain ⟨⟨t173, t174, t175⟩, A240, H⟩ := H
    have A24 := Aside0.mk A240
    clear A240
    have H' := Aside0.mk H
    clear H
    go_wp2_with (first | ((with_reducible refine gate_callee (f := 56) rfl ?_); refine gL (some 21) Tryd.func56 #[] ?_; (with_reducible refine (spec_l07Zero.calls  t173 t174 t175 _ A24.out).mono ?_); rintro e w25 ⟨rfl, hb⟩; refine ⟨_, rfl, ?_⟩; replace BK163 := bB BK163 hb; replace BK164 := bB BK164 hb; replace BK169 := bB BK169 hb; replace HB := bS HB hb; (try clear hb)) | ((with_reducible refine gate_dst (N := 7) rfl ?_); refine bE 7 #[.int .i64 0, .int .i64 0, .bool false] 23 ?_; intro gb176 hg w26 hbox hb; have BK176 := Aside0.mk (hbox); have GW176 := bG HB hg; have GE176 := bG HB hg; replace HB := bS HB hb; have NB163_176 := bL BK163 hg; have NB176_163 := bR BK163 hg; replace BK163 := bB BK163 hb; have NB164_176 := bL BK164 hg; have NB176_164 := bR BK164 hg; replace BK164 := bB BK164 hb; have NB169_176 := bL BK169 hg; have NB176_169 := bR BK169 hg; replace BK169 := bB BK169 hb; clear hb hbox hg; have hnb27 := NB176_163.out; have hnc27 := NB163_176.out; have hnb28 := NB176_164.out; have hnc28 := NB164_176.out; have hnb29 := NB176_169.out; have hnc29 := NB169_176.out; obtain ⟨hcz30_0, hcz30_1, hcz30_2, hfz30_0, hfz30_1, hfz30_2⟩ := bK3 (w := w26) BK176))
    go_loopg [5] kj4 (fun kq v5 w' => ∃ (x5_2 : Int) (x170000_2 : Int) (x170001_2 : Int) (x170002_2 : Bool) (x177000_2 : Int) (x177001_2 : Int) (x177002_2 : Bool), v5 = .int .i64 x5_2 ∧ Aside0 (spec_PointTimes.l0 kq x5_2 x170000_2 x170001_2 x170002_2 x177000_2 x177001_2 x177002_2 = some (r1, r2, r3)) ∧ Aside0 (kq ≤ kj4) ∧ Aside0 (w'.heap[gb163]? = some (.cells #[.int .i64 a1_0, .int .i64 a1_1, .bool a1_2] 23 (0, 0))) ∧ Aside0 (w'.heap[gb164]? = some (.cells #[.int .i64 0, .int .i64 0, .bool false] 23 (0, 0))) ∧ Aside0 (w'.heap[gb169]? = some (.cells #[.int .i64 x170000_2, .int .i64 x170001_2, .bool x170002_2] 23 (0, 0))) ∧ Aside0 (w'.heap[gb176]? = some (.cells #[.int .i64 x177000_2, .int .i64 x177001_2, .bool x177002_2] 23 (0, 0))) ∧ Aside0 (Below w.heap.size w w'))
    case atStart => exact ⟨(x5_4), (x170000_4), (x170001_4), (x170002_4), (t173), (t174), (t175), rS, H', ⟨Nat.le_refl _⟩, ⟨bP BK163⟩, ⟨bP BK164⟩, ⟨bP BK169⟩, ⟨bU BK176⟩, ⟨bZ HB⟩⟩
    case round =>
     clear H'
     try clear c1
     try clear c2
     try clear p2
     try clear c4
     try clear c5
     try clear p6
     try clear c8
     try clear c13
     try clear c14
     try clear c16
     try clear c16b0
     try clear c18
     try clear c19
     try clear c22
     try clear c27
     try clear c28
     try clear c29
     try clear hcz11_0
     try clear hcz11_1
     try clear hcz11_2
     try clear hcz15_0
     try clear hcz15_1
     try clear hcz15_2
     try clear hcz20_0
     try clear hcz20_1
     try clear hcz20_2
     try clear hcz23_0
     try clear hcz23_1
     try clear hcz23_2
     try clear hcz30_0
     try clear hcz30_1
     try clear hcz30_2
     try clear hcz9_0
     try clear hcz9_1
     try clear hcz9_2
     try clear hfz11_0
     try clear hfz11_1
     try clear hfz11_2
     try clear hfz15_0
     try clear hfz15_1
     try clear hfz15_2
     try clear hfz20_0
     try clear hfz20_1
     try clear hfz20_2
     try clear hfz23_0
     try clear hfz23_1
     try clear hfz23_2
     try clear hfz30_0
     try clear hfz30_1
     try clear hfz30_2
     try clear hfz9_0
     try clear hfz9_1
     try clear hfz9_2
     try clear p2
     try clear p6
     obtain ⟨x5_2, x170000_2, x170001_2, x170002_2, x177000_2, x177001_2, x177002_2, rfl, HA, HK2, BK163, BK164, BK169, BK176, HB⟩ := hrel
     cases gk with
     | zero => exact absurd HA.out (by simp [spec_PointTimes.l0])
     | succ k2 =>
      have H := HA.out
      clear HA
      simp only [spec_PointTimes.l0] at H
      by_cases c31 : x5_2 > 0
      ·rw [if_pos c31] at H
       have c31b0 : decide (0 < x5_2) = true := decide_eq_true c31
       clear c31
       by_cases c32 : (Int.tmod x5_2 2) = 1
       ·rw [if_pos c32] at H
        have c32b0 : ((Int.tmod x5_2 2) == 1) = true := beq_iff_eq.mpr c32
        have c32b1 : ((Int.tmod x5_2 2) != 1) = false := bne_eq_false_iff_eq.mpr c32
        clear c32
        replace H := Option.bind_eq_some_iff.mp H
        obtain ⟨⟨t177, t178, t179⟩, A330, H⟩ := H
        have A33 := Aside0.mk A330
        clear A330
        replace H := Option.bind_eq_some_iff.mp H
        obtain ⟨⟨t180, t181, t182⟩, A340, H⟩ := H
        have A34 := Aside0.mk A340
        clear A340
        have H' := Aside0.mk H
        clear H
        have hnb35 := NB176_163.out
        have hnc35 := NB163_176.out
        have hnb36 := NB176_164.out
        have hnc36 := NB164_176.out
        have hnb37 := NB176_169.out
        have hnc37 := NB169_176.out
        obtain ⟨hcz38_0, hcz38_1, hcz38_2, hfz38_0, hfz38_1, hfz38_2⟩ := bK3 (w := wr) BK176
        have hnb39 := NB169_163.out
        have hnc39 := NB163_169.out
        have hnb40 := NB169_164.out
        have hnc40 := NB164_169.out
        obtain ⟨hcz41_0, hcz41_1, hcz41_2, hfz41_0, hfz41_1, hfz41_2⟩ := bK3 (w := wr) BK169
        go_wp2_with (first | ((with_reducible refine gate_callee (f := 89) rfl ?_); refine gL (some 29) Tryd.func89 #[.agg #[.int .i64 x177000_2, .int .i64 x177001_2, .bool x177002_2], .agg #[.int .i64 x170000_2, .int .i64 x170001_2, .bool x170002_2]] ?_; (with_reducible refine (spec_l07Add.calls k2 x177000_2 x177001_2 x177002_2 x170000_2 x170001_2 x170002_2 t177 t178 t179 _ A33.out).mono ?_); rintro e w42 ⟨rfl, hb⟩; refine ⟨_, rfl, ?_⟩; replace BK163 := bB BK163 hb; replace BK164 := bB BK164 hb; replace BK169 := bB BK169 hb; replace BK176 := bB BK176 hb; replace HB := bS HB hb; (try clear hb); obtain ⟨hcz43_0, hcz43_1, hcz43_2, hfz43_0, hfz43_1, hfz43_2⟩ := bK3 (w := w42) BK176; obtain ⟨hcz44_0, hcz44_1, hcz44_2, hfz44_0, hfz44_1, hfz44_2⟩ := bK3 (w := w42) BK169) | ((with_reducible refine gate_callee (f := 89) rfl ?_); refine gL (some 32) Tryd.func89 #[.agg #[.int .i64 x170000_2, .int .i64 x170001_2, .bool x170002_2], .agg #[.int .i64 x170000_2, .int .i64 x170001_2, .bool x170002_2]] ?_; (with_reducible refine (spec_l07Add.calls k2 x170000_2 x170001_2 x170002_2 x170000_2 x170001_2 x170002_2 t180 t181 t182 _ A34.out).mono ?_); rintro e w45 ⟨rfl, hb⟩; refine ⟨_, rfl, ?_⟩; replace BK163 := bB BK163 hb; replace BK164 := bB BK164 hb; replace BK169 := bB BK169 hb; replace BK176 := bV 23 #[.int .i64 t177, .int .i64 t178, .bool t179] BK176 hb; replace HB := bS HB hb; (try clear hb); obtain ⟨hcz46_0, hcz46_1, hcz46_2, hfz46_0, hfz46_1, hfz46_2⟩ := bK3 (w := w45) BK169))
        go_roundg k2
        case measure => have := HJ4.out; have := HK2.out; omega
        case rel => exact ⟨(wrap64 (Int.tdiv x5_2 2)), (t180), (t181), (t182), (t177), (t178), (t179), rS, H', ⟨by have := HJ4.out; have := HK2.out; omega⟩, ⟨bP BK163⟩, ⟨bP BK164⟩, ⟨bU BK169⟩, ⟨bP BK176⟩, ⟨bZ HB⟩⟩
       ·rw [if_neg c32] at H
        have c32b0 : ((Int.tmod x5_2 2) == 1) = false := beq_eq_false_iff_ne.mpr c32
        have c32b1 : ((Int.tmod x5_2 2) != 1) = true := bne_iff_ne.mpr c32
        replace H := Option.bind_eq_some_iff.mp H
        obtain ⟨⟨t183, t184, t185⟩, A470, H⟩ := H
        have A47 := Aside0.mk A470
        clear A470
        have H' := Aside0.mk H
        clear H
        have hnb48 := NB169_163.out
        have hnc48 := NB163_169.out
        have hnb49 := NB169_164.out
        have hnc49 := NB164_169.out
        have hnb50 := NB169_176.out
        have hnc50 := NB176_169.out
        obtain ⟨hcz51_0, hcz51_1, hcz51_2, hfz51_0, hfz51_1, hfz51_2⟩ := bK3 (w := wr) BK169
        go_wp2_with (first | ((with_reducible refine gate_callee (f := 89) rfl ?_); refine gL (some 32) Tryd.func89 #[.agg #[.int .i64 x170000_2, .int .i64 x170001_2, .bool x170002_2], .agg #[.int .i64 x170000_2, .int .i64 x170001_2, .bool x170002_2]] ?_; (with_reducible refine (spec_l07Add.calls k2 x170000_2 x170001_2 x170002_2 x170000_2 x170001_2 x170002_2 t183 t184 t185 _ A47.out).mono ?_); rintro e w52 ⟨rfl, hb⟩; refine ⟨_, rfl, ?_⟩; replace BK163 := bB BK163 hb; replace BK164 := bB BK164 hb; replace BK169 := bB BK169 hb; replace BK176 := bB BK176 hb; replace HB := bS HB hb; (try clear hb); obtain ⟨hcz53_0, hcz53_1, hcz53_2, hfz53_0, hfz53_1, hfz53_2⟩ := bK3 (w := w52) BK169))
        go_roundg k2
        case measure => have := HJ4.out; have := HK2.out; omega
        case rel => exact ⟨(wrap64 (Int.tdiv x5_2 2)), (t183), (t184), (t185), (x177000_2), (x177001_2), (x177002_2), rS, H', ⟨by have := HJ4.out; have := HK2.out; omega⟩, ⟨bP BK163⟩, ⟨bP BK164⟩, ⟨bU BK169⟩, ⟨bP BK176⟩, ⟨bZ HB⟩⟩
      ·rw [if_neg c31] at H
       have c31b0 : decide (0 < x5_2) = false := decide_eq_false c31
       clear c31
       simp only [Option.some.injEq, Prod.mk.injEq] at H
       obtain ⟨rfl, rfl, rfl⟩ := H
       have hnb54 := NB176_163.out
       have hnc54 := NB163_176.out
       have hnb55 := NB176_164.out
       have hnc55 := NB164_176.out
       have hnb56 := NB176_169.out
       have hnc56 := NB169_176.out
       obtain ⟨hcz57_0, hcz57_1, hcz57_2, hfz57_0, hfz57_1, hfz57_2⟩ := bK3 (w := wr) BK176
       have hnb58 := NB164_163.out
       have hnc58 := NB163_164.out
       have hnb59 := NB164_169.out
       have hnc59 := NB169_164.out
       obtain ⟨hcz60_0, hcz60_1, hcz60_2, hfz60_0, hfz60_1, hfz60_2⟩ := bK3 (w := wr) BK164
       go_wp2
       refine rC gb164 23 #[.int .i64 x177000_2, .int .i64 x177001_2, .bool x177002_2] (bU BK164) Tryd.underlying23 ?_
       exact ⟨rR, bZ HB⟩
 ·replace c4 := Bool.eq_false_iff.mpr c4
  subst c4
  rw [if_neg (show ¬ (false = true) by decide)] at H
  replace H := Option.bind_eq_some_iff.mp H
  obtain ⟨⟨t166, t167, t168⟩, A610, H⟩ := H
  have A61 := Aside0.mk A610
  clear A610
  simp only [Option.some.injEq, Prod.mk.injEq] at H
  obtain ⟨rfl, rfl, rfl⟩ := H
  go_enter Tryd.func45, Tryd.ntmps45
  go_wp2_with (first | ((with_reducible refine gate_dst (N := 3) rfl ?_); refine bE 3 #[.int .i64 a1_0, .int .i64 a1_1, .bool a1_2] 23 ?_; intro gb163 hg w62 hbox hb; have BK163 := Aside0.mk (hbox); have GW163 := bG HB hg; have GE163 := bG HB hg; replace HB := bS HB hb; clear hb hbox hg) | ((with_reducible refine gate_dst (N := 4) rfl ?_); refine bE 4 #[.int .i64 0, .int .i64 0, .bool false] 23 ?_; intro gb164 hg w63 hbox hb; have BK164 := Aside0.mk (hbox); have GW164 := bG HB hg; have GE164 := bG HB hg; replace HB := bS HB hb; have NB163_164 := bL BK163 hg; have NB164_163 := bR BK163 hg; replace BK163 := bB BK163 hb; clear hb hbox hg; have hnb64 := NB163_164.out; have hnc64 := NB164_163.out; obtain ⟨hcz65_0, hcz65_1, hcz65_2, hfz65_0, hfz65_1, hfz65_2⟩ := bK3 (w := w63) BK163) | ((with_reducible refine gate_callee (f := 87) rfl ?_); refine gL (some 9) Tryd.func87 #[.agg #[.int .i64 a1_0, .int .i64 a1_1, .bool a1_2]] ?_; (with_reducible refine (spec_PointOk.calls a1_0 a1_1 a1_2 false _ A3.out).mono ?_); rintro e w66 ⟨rfl, hb⟩; refine ⟨_, rfl, ?_⟩; replace BK163 := bB BK163 hb; replace BK164 := bB BK164 hb; replace HB := bS HB hb; (try clear hb)) | ((with_reducible refine gate_callee (f := 56) rfl ?_); refine gL (some 11) Tryd.func56 #[] ?_; (with_reducible refine (spec_l07Zero.calls  t166 t167 t168 _ A61.out).mono ?_); rintro e w67 ⟨rfl, hb⟩; refine ⟨_, rfl, ?_⟩; replace BK163 := bB BK163 hb; replace BK164 := bB BK164 hb; replace HB := bS HB hb; (try clear hb); obtain ⟨hcz68_0, hcz68_1, hcz68_2, hfz68_0, hfz68_1, hfz68_2⟩ := bK3 (w := w67) BK164))
  refine rC gb164 23 #[.int .i64 t166, .int .i64 t167, .bool t168] (bU BK164) Tryd.underlying23 ?_
  exact ⟨rR, bZ HB⟩

end Go.Proofs.YtkdmplfldfagnaaDoor.Pf
end
