/- What is proved here: part 3 of 6 of the proof of the given statement FnPairings: the contracts of the Go functions that it reaches, the plain facts on lists and numbers, and (in the last part) the statement itself. No conditions beyond the given ones. -/
import Derived.Test.YtmbjefdkjdemhaaMFnPairingswSlim
import Derived.Test.YtmbjefdkjdemhaaMFnPairingsa
import Derived.Test.YtmbjefdkjdemhaaMFnPairingsb

section
namespace Go.Proofs.Ytmbjefdkjdemhaa.Pf
open Go.RowKit Go.Proofs.YtmbjefdkjdemhaaW.PrintWords Go.Proofs.YtmbjefdkjdemhaaW.PrintLast Go.Proofs.YtmbjefdkjdemhaaW.PrintMore
attribute [local go_sem] max2_int min2_int max_two min_two max_three min_three max_four min_four   -- for this text's walks alone
set_option linter.unusedVariables false
set_option linter.unusedSimpArgs false
/-! ### impl_PairLine: function 25 -/
def impl_PairLine.j0 : Nat → Bool → Int → Int → Bool → Int → Int → Bool → Int → Int → Bool → Int → Int → Option (Int × Int)
 | 0, _, _, _, _, _, _, _, _, _, _, _, _ => none
 | k + 1, x36, x331000, x331001, x331002, x332000, x332001, x332002, x333000, x333001, x333002, x335000, x335001 => if x36 = true then (some (x335000, x335001)) else ((impl_slopeOf.f k x331000 x331001 x331002 x332000 x332001 x332002).bind fun bt338 => (if bt338.2 = true then ((impl_FpSub.f 0 x333000).bind fun t340 => ((impl_FpSub.f t340 x331000).bind fun t341 => ((impl_FpSub.f 0 x331001).bind fun t342 => ((impl_FpMul.f bt338.1 t341).bind fun t343 => ((impl_FpSub.f t342 t343).bind fun t344 => (some (t344, x333001))))))) else (some (x335000, x335001))))
def impl_PairLine.f (k : Nat) (a0_0 : Int) (a0_1 : Int) (a0_2 : Bool) (a1_0 : Int) (a1_1 : Int) (a1_2 : Bool) (a2_0 : Int) (a2_1 : Int) (a2_2 : Bool) : Option (Int × Int) := if a0_2 = true then (impl_PairLine.j0 k true a0_0 a0_1 a0_2 a1_0 a1_1 a1_2 a2_0 a2_1 a2_2 1 0) else (if a1_2 = true then (impl_PairLine.j0 k true a0_0 a0_1 a0_2 a1_0 a1_1 a1_2 a2_0 a2_1 a2_2 1 0) else (if a2_2 = true then (impl_PairLine.j0 k true a0_0 a0_1 a0_2 a1_0 a1_1 a1_2 a2_0 a2_1 a2_2 1 0) else ((impl_PointOk.f a0_0 a0_1 a0_2).bind fun t335 => (if t335 = true then ((impl_PointOk.f a1_0 a1_1 a1_2).bind fun t336 => (if t336 = true then ((impl_PointOk.f a2_0 a2_1 a2_2).bind fun t337 => (impl_PairLine.j0 k (!t337) a0_0 a0_1 a0_2 a1_0 a1_1 a1_2 a2_0 a2_1 a2_2 1 0)) else (impl_PairLine.j0 k true a0_0 a0_1 a0_2 a1_0 a1_1 a1_2 a2_0 a2_1 a2_2 1 0))) else (impl_PairLine.j0 k true a0_0 a0_1 a0_2 a1_0 a1_1 a1_2 a2_0 a2_1 a2_2 1 0)))))
theorem impl_PairLine.mono_l : ∀ k, (∀ y0 y1 y2 y3 y4 y5 y6 y7 y8 y9 y10 y11, LeO (impl_PairLine.j0 k y0 y1 y2 y3 y4 y5 y6 y7 y8 y9 y10 y11) (impl_PairLine.j0 (k + 1) y0 y1 y2 y3 y4 y5 y6 y7 y8 y9 y10 y11))
 | 0 => fun _ _ _ _ _ _ _ _ _ _ _ _ r h => by simp [impl_PairLine.j0] at h
 | k + 1 => by
  have ih0 := impl_PairLine.mono_l k
  ·intro y0 y1 y2 y3 y4 y5 y6 y7 y8 y9 y10 y11
   unfold impl_PairLine.j0
   repeat' first
   | (with_reducible exact ih0 _ _ _ _ _ _ _ _ _ _ _ _)
   | (with_reducible exact impl_slopeOf.mono _ _ _ _ _ _ _)
   | (with_reducible exact LeO.refl _)
   | (with_reducible exact LeO.none _)
   | (with_reducible refine LeO.ite ?_ ?_)
   | (with_reducible refine LeO.bind ?_ (fun _ => ?_))
   | exact ih0 _ _ _ _ _ _ _ _ _ _ _ _
   | exact impl_slopeOf.mono _ _ _ _ _ _ _
   | exact LeO.none _
   | refine LeO.ite ?_ ?_
   | refine LeO.bind ?_ (fun _ => ?_)
theorem impl_PairLine.mono : ∀ a0 a1 a2 a3 a4 a5 a6 a7 a8 k, LeO (impl_PairLine.f k a0 a1 a2 a3 a4 a5 a6 a7 a8) (impl_PairLine.f (k + 1) a0 a1 a2 a3 a4 a5 a6 a7 a8) := by
 intro a0 a1 a2 a3 a4 a5 a6 a7 a8 k
 have ih0 := impl_PairLine.mono_l k
 unfold impl_PairLine.f
 repeat' first
   | (with_reducible exact ih0 _ _ _ _ _ _ _ _ _ _ _ _)
   | (with_reducible exact impl_slopeOf.mono _ _ _ _ _ _ _)
   | (with_reducible exact LeO.refl _)
   | (with_reducible exact LeO.none _)
   | (with_reducible refine LeO.ite ?_ ?_)
   | (with_reducible refine LeO.bind ?_ (fun _ => ?_))
   | exact ih0 _ _ _ _ _ _ _ _ _ _ _ _
   | exact impl_slopeOf.mono _ _ _ _ _ _ _
   | exact LeO.none _
   | refine LeO.ite ?_ ?_
   | refine LeO.bind ?_ (fun _ => ?_)
def impl_PairLine.T8 : Bool × List (List Nat × List Nat) := (true, [([], []), ([0], [0]), ([1], [1]), ([], []), ([], []), ([3, 4, 2], [3, 4]), ([2, 5, 5], [2, 5]), ([], []), ([7], [7]), ([6, 8], [6, 8]), ([9, 6, 0, 1, 2, 3, 4, 5, 6, 7, 8, 9], [9])])
def impl_PairLine.B8 : List Nat := [0, 1, 3, 0, 0, 31, 63, 0, 128, 511, 1023]
theorem impl_PairLine.tab8 : rtab .any (opsOf Try.f25 8) = impl_PairLine.T8 := by kernel_rfl
theorem impl_PairLine.bits8 : waitsOk impl_PairLine.T8.2 impl_PairLine.B8 = true := by kernel_rfl
set_option maxHeartbeats 8000000 in
set_option maxRecDepth 100000 in
theorem impl_PairLine.calls (k : Nat) (a0_0 : Int) (a0_1 : Int) (a0_2 : Bool) (a1_0 : Int) (a1_1 : Int) (a1_2 : Bool) (a2_0 : Int) (a2_1 : Int) (a2_2 : Bool) (r1 : Int) (r2 : Int) (w : World) (h : impl_PairLine.f k a0_0 a0_1 a0_2 a1_0 a1_1 a1_2 a2_0 a2_1 a2_2 = some (r1, r2)) :
  Calls Try.prog 25 #[.agg #[.int .i64 a0_0, .int .i64 a0_1, .bool a0_2], .agg #[.int .i64 a1_0, .int .i64 a1_1, .bool a1_2], .agg #[.int .i64 a2_0, .int .i64 a2_1, .bool a2_2]] w fun e w' => e = .returned (.agg #[.int .i64 r1, .int .i64 r2]) ∧ Below w.heap.size w w' := by
 have hu25 := Try.underlying25
 have hu31 := Try.underlying31
 have HB := Aside0.mk (Below.refl w.heap.size w)
 have H : (if a0_2 = true then (impl_PairLine.j0 k true a0_0 a0_1 a0_2 a1_0 a1_1 a1_2 a2_0 a2_1 a2_2 1 0) else (if a1_2 = true then (impl_PairLine.j0 k true a0_0 a0_1 a0_2 a1_0 a1_1 a1_2 a2_0 a2_1 a2_2 1 0) else (if a2_2 = true then (impl_PairLine.j0 k true a0_0 a0_1 a0_2 a1_0 a1_1 a1_2 a2_0 a2_1 a2_2 1 0) else ((impl_PointOk.f a0_0 a0_1 a0_2).bind fun t335 => (if t335 = true then ((impl_PointOk.f a1_0 a1_1 a1_2).bind fun t336 => (if t336 = true then ((impl_PointOk.f a2_0 a2_1 a2_2).bind fun t337 => (impl_PairLine.j0 k (!t337) a0_0 a0_1 a0_2 a1_0 a1_1 a1_2 a2_0 a2_1 a2_2 1 0)) else (impl_PairLine.j0 k true a0_0 a0_1 a0_2 a1_0 a1_1 a1_2 a2_0 a2_1 a2_2 1 0))) else (impl_PairLine.j0 k true a0_0 a0_1 a0_2 a1_0 a1_1 a1_2 a2_0 a2_1 a2_2 1 0)))))) = some (r1, r2) := h
 clear h
 have HC4 := Aside0.mk H
 clear H
 go_enter Try.func25, Try.ntmps25
 go_upto_region 2 with (first | ((with_reducible refine gate_dst (N := 3) rfl ?_); refine box_event ?hg (N := 3) ?hd (cs := #[.int .i64 a0_0, .int .i64 a0_1, .bool a0_2]) (t := 25) ?hr ?_; (case hd => rfl); (case hg => rfl); (case hr => first | (go_simp; done) | (go_simp; rfl)); intro gb330 hg w5 hbox hb; have BK330 := Aside0.mk (hbox); have GW330 := bG HB hg; have GE330 := bG HB hg; replace HB := bS HB hb; clear hb hbox hg) | ((with_reducible refine gate_dst (N := 4) rfl ?_); refine box_event ?hg (N := 4) ?hd (cs := #[.int .i64 a1_0, .int .i64 a1_1, .bool a1_2]) (t := 25) ?hr ?_; (case hd => rfl); (case hg => rfl); (case hr => first | (go_simp; done) | (go_simp; rfl)); intro gb331 hg w6 hbox hb; have BK331 := Aside0.mk (hbox); have GW331 := bG HB hg; have GE331 := bG HB hg; replace HB := bS HB hb; have NB330_331 := bL BK330 hg; have NB331_330 := bR BK330 hg; replace BK330 := bB BK330 hb; clear hb hbox hg) | ((with_reducible refine gate_dst (N := 5) rfl ?_); refine box_event ?hg (N := 5) ?hd (cs := #[.int .i64 a2_0, .int .i64 a2_1, .bool a2_2]) (t := 25) ?hr ?_; (case hd => rfl); (case hg => rfl); (case hr => first | (go_simp; done) | (go_simp; rfl)); intro gb332 hg w7 hbox hb; have BK332 := Aside0.mk (hbox); have GW332 := bG HB hg; have GE332 := bG HB hg; replace HB := bS HB hb; have NB330_332 := bL BK330 hg; have NB332_330 := bR BK330 hg; replace BK330 := bB BK330 hb; have NB331_332 := bL BK331 hg; have NB332_331 := bR BK331 hg; replace BK331 := bB BK331 hb; clear hb hbox hg) | ((with_reducible refine gate_dst (N := 6) rfl ?_); refine box_event ?hg (N := 6) ?hd (cs := #[.int .i64 0, .int .i64 0]) (t := 31) ?hr ?_; (case hd => rfl); (case hg => rfl); (case hr => first | (go_simp; done) | (go_simp; rfl)); intro gb333 hg w8 hbox hb; have BK333 := Aside0.mk (hbox); have GW333 := bG HB hg; have GE333 := bG HB hg; replace HB := bS HB hb; have NB330_333 := bL BK330 hg; have NB333_330 := bR BK330 hg; replace BK330 := bB BK330 hb; have NB331_333 := bL BK331 hg; have NB333_331 := bR BK331 hg; replace BK331 := bB BK331 hb; have NB332_333 := bL BK332 hg; have NB333_332 := bR BK332 hg; replace BK332 := bB BK332 hb; clear hb hbox hg) | ((with_reducible refine gate_dst (N := 7) rfl ?_); refine box_event ?hg (N := 7) ?hd (cs := #[.int .i64 0, .int .i64 0]) (t := 31) ?hr ?_; (case hd => rfl); (case hg => rfl); (case hr => first | (go_simp; done) | (go_simp; rfl)); intro gb334 hg w9 hbox hb; have BK334 := Aside0.mk (hbox); have GW334 := bG HB hg; have GE334 := bG HB hg; replace HB := bS HB hb; have NB330_334 := bL BK330 hg; have NB334_330 := bR BK330 hg; replace BK330 := bB BK330 hb; have NB331_334 := bL BK331 hg; have NB334_331 := bR BK331 hg; replace BK331 := bB BK331 hb; have NB332_334 := bL BK332 hg; have NB334_332 := bR BK332 hg; replace BK332 := bB BK332 hb; have NB333_334 := bL BK333 hg; have NB334_333 := bR BK333 hg; replace BK333 := bB BK333 hb; clear hb hbox hg; have hnb10 := NB334_330.out; have hnc10 := NB330_334.out; have hnb11 := NB334_331.out; have hnc11 := NB331_334.out; have hnb12 := NB334_332.out; have hnc12 := NB332_334.out; have hnb13 := NB334_333.out; have hnc13 := NB333_334.out; have hcz14_0 : w9.cell? ⟨gb334, 0, none⟩ = some (.int .i64 0) := bc BK334 0; have hcz14_1 : w9.cell? ⟨gb334, 1, none⟩ = some (.int .i64 0) := bc BK334 1; have hfz14_0 := blk_frozen BK334.out 0; have hfz14_1 := blk_frozen BK334.out 1))
 (try simp only [Act.put, List.setIfInBounds_toArray, List.set_cons_zero, List.set_cons_succ])
 go_cut [36] (fun v36 wc => ∃ (kq : Nat) (x36_3 : Bool), v36 = .bool x36_3 ∧ Aside0 (impl_PairLine.j0 kq x36_3 a0_0 a0_1 a0_2 a1_0 a1_1 a1_2 a2_0 a2_1 a2_2 1 0 = some (r1, r2)) ∧ Aside0 (kq ≤ k) ∧ Aside0 (wc.heap[gb330]? = some (.cells #[.int .i64 a0_0, .int .i64 a0_1, .bool a0_2] 25 (0, 0))) ∧ Aside0 (wc.heap[gb331]? = some (.cells #[.int .i64 a1_0, .int .i64 a1_1, .bool a1_2] 25 (0, 0))) ∧ Aside0 (wc.heap[gb332]? = some (.cells #[.int .i64 a2_0, .int .i64 a2_1, .bool a2_2] 25 (0, 0))) ∧ Aside0 (wc.heap[gb333]? = some (.cells #[.int .i64 0, .int .i64 0] 31 (0, 0))) ∧ Aside0 (wc.heap[gb334]? = some (.cells #[.int .i64 1, .int .i64 0] 31 (0, 0))) ∧ Aside0 (Below w.heap.size w wc))
 case first =>
  have H := HC4.out
  clear HC4
  by_cases c15 : a0_2 = true
  ·subst c15
   have H1 : (impl_PairLine.j0 k true a0_0 a0_1 true a1_0 a1_1 a1_2 a2_0 a2_1 a2_2 1 0) = some (r1, r2) := by rw [if_pos rfl] at H; exact H
   clear H
   have H := H1
   clear H1
   have H' := Aside0.mk H
   clear H
   have hnb16 := NB330_331.out
   have hnc16 := NB331_330.out
   have hnb17 := NB330_332.out
   have hnc17 := NB332_330.out
   have hnb18 := NB330_333.out
   have hnc18 := NB333_330.out
   have hnb19 := NB330_334.out
   have hnc19 := NB334_330.out
   have hcz20_0 : w9.cell? ⟨gb330, 0, none⟩ = some (.int .i64 a0_0) := bc BK330 0
   have hcz20_1 : w9.cell? ⟨gb330, 1, none⟩ = some (.int .i64 a0_1) := bc BK330 1
   have hcz20_2 : w9.cell? ⟨gb330, 2, none⟩ = some (.bool true) := bc BK330 2
   have hfz20_0 := blk_frozen BK330.out 0
   have hfz20_1 := blk_frozen BK330.out 1
   have hfz20_2 := blk_frozen BK330.out 2
   go_wp2
   go_meet
   case rel => exact ⟨_, (true), (by first | rfl | (simp; done) | (simp [*]; done)), H', ⟨by first | omega | exact Nat.le_refl _⟩, ⟨bP BK330⟩, ⟨bP BK331⟩, ⟨bP BK332⟩, ⟨bP BK333⟩, ⟨by (with_reducible repeat (first | refine blk_drewN ?_ _ | refine blk_drew ?_ | refine blk_alloc ?_ _)); refine blk_put (cs := #[.int .i64 1, .int .i64 0]) ?_ 1 _ rfl; (with_reducible repeat (first | refine blk_drewN ?_ _ | refine blk_drew ?_ | refine blk_alloc ?_ _)); refine blk_put (cs := #[.int .i64 0, .int .i64 0]) ?_ 0 _ rfl; (with_reducible repeat (first | refine blk_drewN ?_ _ | refine blk_drew ?_ | refine blk_alloc ?_ _)); exact BK334.out⟩, ⟨bZ HB⟩⟩
  ·replace c15 := Bool.eq_false_iff.mpr c15
   subst c15
   have H1 : (if a1_2 = true then (impl_PairLine.j0 k true a0_0 a0_1 false a1_0 a1_1 a1_2 a2_0 a2_1 a2_2 1 0) else (if a2_2 = true then (impl_PairLine.j0 k true a0_0 a0_1 false a1_0 a1_1 a1_2 a2_0 a2_1 a2_2 1 0) else ((impl_PointOk.f a0_0 a0_1 false).bind fun t335 => (if t335 = true then ((impl_PointOk.f a1_0 a1_1 a1_2).bind fun t336 => (if t336 = true then ((impl_PointOk.f a2_0 a2_1 a2_2).bind fun t337 => (impl_PairLine.j0 k (!t337) a0_0 a0_1 false a1_0 a1_1 a1_2 a2_0 a2_1 a2_2 1 0)) else (impl_PairLine.j0 k true a0_0 a0_1 false a1_0 a1_1 a1_2 a2_0 a2_1 a2_2 1 0))) else (impl_PairLine.j0 k true a0_0 a0_1 false a1_0 a1_1 a1_2 a2_0 a2_1 a2_2 1 0))))) = some (r1, r2) := by rw [if_neg (show ¬ (false = true) by decide)] at H; exact H
   clear H
   have H := H1
   clear H1
   by_cases c21 : a1_2 = true
   ·subst c21
    have H1 : (impl_PairLine.j0 k true a0_0 a0_1 false a1_0 a1_1 true a2_0 a2_1 a2_2 1 0) = some (r1, r2) := by rw [if_pos rfl] at H; exact H
    clear H
    have H := H1
    clear H1
    have H' := Aside0.mk H
    clear H
    have hnb22 := NB330_331.out
    have hnc22 := NB331_330.out
    have hnb23 := NB330_332.out
    have hnc23 := NB332_330.out
    have hnb24 := NB330_333.out
    have hnc24 := NB333_330.out
    have hnb25 := NB330_334.out
    have hnc25 := NB334_330.out
    have hcz26_0 : w9.cell? ⟨gb330, 0, none⟩ = some (.int .i64 a0_0) := bc BK330 0
    have hcz26_1 : w9.cell? ⟨gb330, 1, none⟩ = some (.int .i64 a0_1) := bc BK330 1
    have hcz26_2 : w9.cell? ⟨gb330, 2, none⟩ = some (.bool false) := bc BK330 2
    have hfz26_0 := blk_frozen BK330.out 0
    have hfz26_1 := blk_frozen BK330.out 1
    have hfz26_2 := blk_frozen BK330.out 2
    have hnb27 := NB331_332.out
    have hnc27 := NB332_331.out
    have hnb28 := NB331_333.out
    have hnc28 := NB333_331.out
    have hnb29 := NB331_334.out
    have hnc29 := NB334_331.out
    have hcz30_0 : w9.cell? ⟨gb331, 0, none⟩ = some (.int .i64 a1_0) := bc BK331 0
    have hcz30_1 : w9.cell? ⟨gb331, 1, none⟩ = some (.int .i64 a1_1) := bc BK331 1
    have hcz30_2 : w9.cell? ⟨gb331, 2, none⟩ = some (.bool true) := bc BK331 2
    have hfz30_0 := blk_frozen BK331.out 0
    have hfz30_1 := blk_frozen BK331.out 1
    have hfz30_2 := blk_frozen BK331.out 2
    go_wp2
    go_meet
    case rel => exact ⟨_, (true), (by first | rfl | (simp; done) | (simp [*]; done)), H', ⟨by first | omega | exact Nat.le_refl _⟩, ⟨bP BK330⟩, ⟨bP BK331⟩, ⟨bP BK332⟩, ⟨bP BK333⟩, ⟨by (with_reducible repeat (first | refine blk_drewN ?_ _ | refine blk_drew ?_ | refine blk_alloc ?_ _)); refine blk_put (cs := #[.int .i64 1, .int .i64 0]) ?_ 1 _ rfl; (with_reducible repeat (first | refine blk_drewN ?_ _ | refine blk_drew ?_ | refine blk_alloc ?_ _)); refine blk_put (cs := #[.int .i64 0, .int .i64 0]) ?_ 0 _ rfl; (with_reducible repeat (first | refine blk_drewN ?_ _ | refine blk_drew ?_ | refine blk_alloc ?_ _)); exact BK334.out⟩, ⟨bZ HB⟩⟩
   ·replace c21 := Bool.eq_false_iff.mpr c21
    subst c21
    have H1 : (if a2_2 = true then (impl_PairLine.j0 k true a0_0 a0_1 false a1_0 a1_1 false a2_0 a2_1 a2_2 1 0) else ((impl_PointOk.f a0_0 a0_1 false).bind fun t335 => (if t335 = true then ((impl_PointOk.f a1_0 a1_1 false).bind fun t336 => (if t336 = true then ((impl_PointOk.f a2_0 a2_1 a2_2).bind fun t337 => (impl_PairLine.j0 k (!t337) a0_0 a0_1 false a1_0 a1_1 false a2_0 a2_1 a2_2 1 0)) else (impl_PairLine.j0 k true a0_0 a0_1 false a1_0 a1_1 false a2_0 a2_1 a2_2 1 0))) else (impl_PairLine.j0 k true a0_0 a0_1 false a1_0 a1_1 false a2_0 a2_1 a2_2 1 0)))) = some (r1, r2) := by rw [if_neg (show ¬ (false = true) by decide)] at H; exact H
    clear H
    have H := H1
    clear H1
    by_cases c31 : a2_2 = true
    ·subst c31
     have H1 : (impl_PairLine.j0 k true a0_0 a0_1 false a1_0 a1_1 false a2_0 a2_1 true 1 0) = some (r1, r2) := by rw [if_pos rfl] at H; exact H
     clear H
     have H := H1
     clear H1
     have H' := Aside0.mk H
     clear H
     have hnb32 := NB330_331.out
     have hnc32 := NB331_330.out
     have hnb33 := NB330_332.out
     have hnc33 := NB332_330.out
     have hnb34 := NB330_333.out
     have hnc34 := NB333_330.out
     have hnb35 := NB330_334.out
     have hnc35 := NB334_330.out
     have hcz36_0 : w9.cell? ⟨gb330, 0, none⟩ = some (.int .i64 a0_0) := bc BK330 0
     have hcz36_1 : w9.cell? ⟨gb330, 1, none⟩ = some (.int .i64 a0_1) := bc BK330 1
     have hcz36_2 : w9.cell? ⟨gb330, 2, none⟩ = some (.bool false) := bc BK330 2
     have hfz36_0 := blk_frozen BK330.out 0
     have hfz36_1 := blk_frozen BK330.out 1
     have hfz36_2 := blk_frozen BK330.out 2
     have hnb37 := NB331_332.out
     have hnc37 := NB332_331.out
     have hnb38 := NB331_333.out
     have hnc38 := NB333_331.out
     have hnb39 := NB331_334.out
     have hnc39 := NB334_331.out
     have hcz40_0 : w9.cell? ⟨gb331, 0, none⟩ = some (.int .i64 a1_0) := bc BK331 0
     have hcz40_1 : w9.cell? ⟨gb331, 1, none⟩ = some (.int .i64 a1_1) := bc BK331 1
     have hcz40_2 : w9.cell? ⟨gb331, 2, none⟩ = some (.bool false) := bc BK331 2
     have hfz40_0 := blk_frozen BK331.out 0
     have hfz40_1 := blk_frozen BK331.out 1
     have hfz40_2 := blk_frozen BK331.out 2
     have hnb41 := NB332_333.out
     have hnc41 := NB333_332.out
     have hnb42 := NB332_334.out
     have hnc42 := NB334_332.out
     have hcz43_0 : w9.cell? ⟨gb332, 0, none⟩ = some (.int .i64 a2_0) := bc BK332 0
     have hcz43_1 : w9.cell? ⟨gb332, 1, none⟩ = some (.int .i64 a2_1) := bc BK332 1
     have hcz43_2 : w9.cell? ⟨gb332, 2, none⟩ = some (.bool true) := bc BK332 2
     have hfz43_0 := blk_frozen BK332.out 0
     have hfz43_1 := blk_frozen BK332.out 1
     have hfz43_2 := blk_frozen BK332.out 2
     go_wp2
     go_meet
     case rel => exact ⟨_, (true), (by first | rfl | (simp; done) | (simp [*]; done)), H', ⟨by first | omega | exact Nat.le_refl _⟩, ⟨bP BK330⟩, ⟨bP BK331⟩, ⟨bP BK332⟩, ⟨bP BK333⟩, ⟨by (with_reducible repeat (first | refine blk_drewN ?_ _ | refine blk_drew ?_ | refine blk_alloc ?_ _)); refine blk_put (cs := #[.int .i64 1, .int .i64 0]) ?_ 1 _ rfl; (with_reducible repeat (first | refine blk_drewN ?_ _ | refine blk_drew ?_ | refine blk_alloc ?_ _)); refine blk_put (cs := #[.int .i64 0, .int .i64 0]) ?_ 0 _ rfl; (with_reducible repeat (first | refine blk_drewN ?_ _ | refine blk_drew ?_ | refine blk_alloc ?_ _)); exact BK334.out⟩, ⟨bZ HB⟩⟩
    ·replace c31 := Bool.eq_false_iff.mpr c31
     subst c31
     have H1 : ((impl_PointOk.f a0_0 a0_1 false).bind fun t335 => (if t335 = true then ((impl_PointOk.f a1_0 a1_1 false).bind fun t336 => (if t336 = true then ((impl_PointOk.f a2_0 a2_1 false).bind fun t337 => (impl_PairLine.j0 k (!t337) a0_0 a0_1 false a1_0 a1_1 false a2_0 a2_1 false 1 0)) else (impl_PairLine.j0 k true a0_0 a0_1 false a1_0 a1_1 false a2_0 a2_1 false 1 0))) else (impl_PairLine.j0 k true a0_0 a0_1 false a1_0 a1_1 false a2_0 a2_1 false 1 0))) = some (r1, r2) := by rw [if_neg (show ¬ (false = true) by decide)] at H; exact H
     clear H
     have H := H1
     clear H1
     replace H := Option.bind_eq_some_iff.mp H
     obtain ⟨t335, A440, H⟩ := H
     replace H : (if t335 = true then ((impl_PointOk.f a1_0 a1_1 false).bind fun t336 => (if t336 = true then ((impl_PointOk.f a2_0 a2_1 false).bind fun t337 => (impl_PairLine.j0 k (!t337) a0_0 a0_1 false a1_0 a1_1 false a2_0 a2_1 false 1 0)) else (impl_PairLine.j0 k true a0_0 a0_1 false a1_0 a1_1 false a2_0 a2_1 false 1 0))) else (impl_PairLine.j0 k true a0_0 a0_1 false a1_0 a1_1 false a2_0 a2_1 false 1 0)) = some (r1, r2) := H
     have A44 := Aside0.mk A440
     clear A440
     by_cases c45 : t335 = true
     ·subst c45
      have H1 : ((impl_PointOk.f a1_0 a1_1 false).bind fun t336 => (if t336 = true then ((impl_PointOk.f a2_0 a2_1 false).bind fun t337 => (impl_PairLine.j0 k (!t337) a0_0 a0_1 false a1_0 a1_1 false a2_0 a2_1 false 1 0)) else (impl_PairLine.j0 k true a0_0 a0_1 false a1_0 a1_1 false a2_0 a2_1 false 1 0))) = some (r1, r2) := by rw [if_pos rfl] at H; exact H
      clear H
      have H := H1
      clear H1
      replace H := Option.bind_eq_some_iff.mp H
      obtain ⟨t336, A460, H⟩ := H
      replace H : (if t336 = true then ((impl_PointOk.f a2_0 a2_1 false).bind fun t337 => (impl_PairLine.j0 k (!t337) a0_0 a0_1 false a1_0 a1_1 false a2_0 a2_1 false 1 0)) else (impl_PairLine.j0 k true a0_0 a0_1 false a1_0 a1_1 false a2_0 a2_1 false 1 0)) = some (r1, r2) := H
      have A46 := Aside0.mk A460
      clear A460
      by_cases c47 : t336 = true
      ·subst c47
       have H1 : ((impl_PointOk.f a2_0 a2_1 false).bind fun t337 => (impl_PairLine.j0 k (!t337) a0_0 a0_1 false a1_0 a1_1 false a2_0 a2_1 false 1 0)) = some (r1, r2) := by rw [if_pos rfl] at H; exact H
       clear H
       have H := H1
       clear H1
       replace H := Option.bind_eq_some_iff.mp H
       obtain ⟨t337, A480, H⟩ := H
       replace H : (impl_PairLine.j0 k (!t337) a0_0 a0_1 false a1_0 a1_1 false a2_0 a2_1 false 1 0) = some (r1, r2) := H
       have A48 := Aside0.mk A480
       clear A480
       have H' := Aside0.mk H
       clear H
       have hnb49 := NB330_331.out
       have hnc49 := NB331_330.out
       have hnb50 := NB330_332.out
       have hnc50 := NB332_330.out
       have hnb51 := NB330_333.out
       have hnc51 := NB333_330.out
       have hnb52 := NB330_334.out
       have hnc52 := NB334_330.out
       have hcz53_0 : w9.cell? ⟨gb330, 0, none⟩ = some (.int .i64 a0_0) := bc BK330 0
       have hcz53_1 : w9.cell? ⟨gb330, 1, none⟩ = some (.int .i64 a0_1) := bc BK330 1
       have hcz53_2 : w9.cell? ⟨gb330, 2, none⟩ = some (.bool false) := bc BK330 2
       have hfz53_0 := blk_frozen BK330.out 0
       have hfz53_1 := blk_frozen BK330.out 1
       have hfz53_2 := blk_frozen BK330.out 2
       have hnb54 := NB331_332.out
       have hnc54 := NB332_331.out
       have hnb55 := NB331_333.out
       have hnc55 := NB333_331.out
       have hnb56 := NB331_334.out
       have hnc56 := NB334_331.out
       have hcz57_0 : w9.cell? ⟨gb331, 0, none⟩ = some (.int .i64 a1_0) := bc BK331 0
       have hcz57_1 : w9.cell? ⟨gb331, 1, none⟩ = some (.int .i64 a1_1) := bc BK331 1
       have hcz57_2 : w9.cell? ⟨gb331, 2, none⟩ = some (.bool false) := bc BK331 2
       have hfz57_0 := blk_frozen BK331.out 0
       have hfz57_1 := blk_frozen BK331.out 1
       have hfz57_2 := blk_frozen BK331.out 2
       have hnb58 := NB332_333.out
       have hnc58 := NB333_332.out
       have hnb59 := NB332_334.out
       have hnc59 := NB334_332.out
       have hcz60_0 : w9.cell? ⟨gb332, 0, none⟩ = some (.int .i64 a2_0) := bc BK332 0
       have hcz60_1 : w9.cell? ⟨gb332, 1, none⟩ = some (.int .i64 a2_1) := bc BK332 1
       have hcz60_2 : w9.cell? ⟨gb332, 2, none⟩ = some (.bool false) := bc BK332 2
       have hfz60_0 := blk_frozen BK332.out 0
       have hfz60_1 := blk_frozen BK332.out 1
       have hfz60_2 := blk_frozen BK332.out 2
       go_wp2_with (first | (go_at_call 31; (with_reducible refine (impl_PointOk.calls a0_0 a0_1 false true _ A44.out).mono ?_); rintro e w61 ⟨rfl, hb⟩; replace BK330 := bB BK330 hb; replace BK331 := bB BK331 hb; replace BK332 := bB BK332 hb; replace BK333 := bB BK333 hb; replace BK334 := Aside0.mk (blk_below (g := gb334) (o := .cells #[.int .i64 1, .int .i64 0] 31 (0, 0)) (by (with_reducible repeat (first | refine blk_drewN ?_ _ | refine blk_drew ?_ | refine blk_alloc ?_ _)); refine blk_put (cs := #[.int .i64 1, .int .i64 0]) ?_ 1 _ rfl; (with_reducible repeat (first | refine blk_drewN ?_ _ | refine blk_drew ?_ | refine blk_alloc ?_ _)); refine blk_put (cs := #[.int .i64 0, .int .i64 0]) ?_ 0 _ rfl; (with_reducible repeat (first | refine blk_drewN ?_ _ | refine blk_drew ?_ | refine blk_alloc ?_ _)); exact BK334.out) hb); replace HB := bS HB hb; (try clear hb); (try clear hb2); (try clear hk); (try clear hi); have hcz62_0 : w61.cell? ⟨gb331, 0, none⟩ = some (.int .i64 a1_0) := bc BK331 0; have hcz62_1 : w61.cell? ⟨gb331, 1, none⟩ = some (.int .i64 a1_1) := bc BK331 1; have hcz62_2 : w61.cell? ⟨gb331, 2, none⟩ = some (.bool false) := bc BK331 2; have hfz62_0 := blk_frozen BK331.out 0; have hfz62_1 := blk_frozen BK331.out 1; have hfz62_2 := blk_frozen BK331.out 2) | (go_at_call 31; (with_reducible refine (impl_PointOk.calls a1_0 a1_1 false true _ A46.out).mono ?_); rintro e w63 ⟨rfl, hb⟩; replace BK330 := bB BK330 hb; replace BK331 := bB BK331 hb; replace BK332 := bB BK332 hb; replace BK333 := bB BK333 hb; replace BK334 := bB BK334 hb; replace HB := bS HB hb; (try clear hb); (try clear hb2); (try clear hk); (try clear hi); have hcz64_0 : w63.cell? ⟨gb332, 0, none⟩ = some (.int .i64 a2_0) := bc BK332 0; have hcz64_1 : w63.cell? ⟨gb332, 1, none⟩ = some (.int .i64 a2_1) := bc BK332 1; have hcz64_2 : w63.cell? ⟨gb332, 2, none⟩ = some (.bool false) := bc BK332 2; have hfz64_0 := blk_frozen BK332.out 0; have hfz64_1 := blk_frozen BK332.out 1; have hfz64_2 := blk_frozen BK332.out 2) | (go_at_call 31; (with_reducible refine (impl_PointOk.calls a2_0 a2_1 false t337 _ A48.out).mono ?_); rintro e w65 ⟨rfl, hb⟩; replace BK330 := bB BK330 hb; replace BK331 := bB BK331 hb; replace BK332 := bB BK332 hb; replace BK333 := bB BK333 hb; replace BK334 := bB BK334 hb; replace HB := bS HB hb; (try clear hb); (try clear hb2); (try clear hk); (try clear hi)))
       go_meet
       case rel => exact ⟨_, (!t337), (by first | rfl | (simp; done) | (simp [*]; done)), H', ⟨by first | omega | exact Nat.le_refl _⟩, ⟨bP BK330⟩, ⟨bP BK331⟩, ⟨bP BK332⟩, ⟨bP BK333⟩, ⟨bP BK334⟩, ⟨bZ HB⟩⟩
      ·replace c47 := Bool.eq_false_iff.mpr c47
       subst c47
       have H1 : (impl_PairLine.j0 k true a0_0 a0_1 false a1_0 a1_1 false a2_0 a2_1 false 1 0) = some (r1, r2) := by rw [if_neg (show ¬ (false = true) by decide)] at H; exact H
       clear H
       have H := H1
       clear H1
       have H' := Aside0.mk H
       clear H
       have hnb66 := NB330_331.out
       have hnc66 := NB331_330.out
       have hnb67 := NB330_332.out
       have hnc67 := NB332_330.out
       have hnb68 := NB330_333.out
       have hnc68 := NB333_330.out
       have hnb69 := NB330_334.out
       have hnc69 := NB334_330.out
       have hcz70_0 : w9.cell? ⟨gb330, 0, none⟩ = some (.int .i64 a0_0) := bc BK330 0
       have hcz70_1 : w9.cell? ⟨gb330, 1, none⟩ = some (.int .i64 a0_1) := bc BK330 1
       have hcz70_2 : w9.cell? ⟨gb330, 2, none⟩ = some (.bool false) := bc BK330 2
       have hfz70_0 := blk_frozen BK330.out 0
       have hfz70_1 := blk_frozen BK330.out 1
       have hfz70_2 := blk_frozen BK330.out 2
       have hnb71 := NB331_332.out
       have hnc71 := NB332_331.out
       have hnb72 := NB331_333.out
       have hnc72 := NB333_331.out
       have hnb73 := NB331_334.out
       have hnc73 := NB334_331.out
       have hcz74_0 : w9.cell? ⟨gb331, 0, none⟩ = some (.int .i64 a1_0) := bc BK331 0
       have hcz74_1 : w9.cell? ⟨gb331, 1, none⟩ = some (.int .i64 a1_1) := bc BK331 1
       have hcz74_2 : w9.cell? ⟨gb331, 2, none⟩ = some (.bool false) := bc BK331 2
       have hfz74_0 := blk_frozen BK331.out 0
       have hfz74_1 := blk_frozen BK331.out 1
       have hfz74_2 := blk_frozen BK331.out 2
       have hnb75 := NB332_333.out
       have hnc75 := NB333_332.out
       have hnb76 := NB332_334.out
       have hnc76 := NB334_332.out
       have hcz77_0 : w9.cell? ⟨gb332, 0, none⟩ = some (.int .i64 a2_0) := bc BK332 0
       have hcz77_1 : w9.cell? ⟨gb332, 1, none⟩ = some (.int .i64 a2_1) := bc BK332 1
       have hcz77_2 : w9.cell? ⟨gb332, 2, none⟩ = some (.bool false) := bc BK332 2
       have hfz77_0 := blk_frozen BK332.out 0
       have hfz77_1 := blk_frozen BK332.out 1
       have hfz77_2 := blk_frozen BK332.out 2
       go_wp2_with (first | (go_at_call 31; (with_reducible refine (impl_PointOk.calls a0_0 a0_1 false true _ A44.out).mono ?_); rintro e w78 ⟨rfl, hb⟩; replace BK330 := bB BK330 hb; replace BK331 := bB BK331 hb; replace BK332 := bB BK332 hb; replace BK333 := bB BK333 hb; replace BK334 := Aside0.mk (blk_below (g := gb334) (o := .cells #[.int .i64 1, .int .i64 0] 31 (0, 0)) (by (with_reducible repeat (first | refine blk_drewN ?_ _ | refine blk_drew ?_ | refine blk_alloc ?_ _)); refine blk_put (cs := #[.int .i64 1, .int .i64 0]) ?_ 1 _ rfl; (with_reducible repeat (first | refine blk_drewN ?_ _ | refine blk_drew ?_ | refine blk_alloc ?_ _)); refine blk_put (cs := #[.int .i64 0, .int .i64 0]) ?_ 0 _ rfl; (with_reducible repeat (first | refine blk_drewN ?_ _ | refine blk_drew ?_ | refine blk_alloc ?_ _)); exact BK334.out) hb); replace HB := bS HB hb; (try clear hb); (try clear hb2); (try clear hk); (try clear hi); have hcz79_0 : w78.cell? ⟨gb331, 0, none⟩ = some (.int .i64 a1_0) := bc BK331 0; have hcz79_1 : w78.cell? ⟨gb331, 1, none⟩ = some (.int .i64 a1_1) := bc BK331 1; have hcz79_2 : w78.cell? ⟨gb331, 2, none⟩ = some (.bool false) := bc BK331 2; have hfz79_0 := blk_frozen BK331.out 0; have hfz79_1 := blk_frozen BK331.out 1; have hfz79_2 := blk_frozen BK331.out 2) | (go_at_call 31; (with_reducible refine (impl_PointOk.calls a1_0 a1_1 false false _ A46.out).mono ?_); rintro e w80 ⟨rfl, hb⟩; replace BK330 := bB BK330 hb; replace BK331 := bB BK331 hb; replace BK332 := bB BK332 hb; replace BK333 := bB BK333 hb; replace BK334 := bB BK334 hb; replace HB := bS HB hb; (try clear hb); (try clear hb2); (try clear hk); (try clear hi)))
       go_meet
       case rel => exact ⟨_, (true), (by first | rfl | (simp; done) | (simp [*]; done)), H', ⟨by first | omega | exact Nat.le_refl _⟩, ⟨bP BK330⟩, ⟨bP BK331⟩, ⟨bP BK332⟩, ⟨bP BK333⟩, ⟨bP BK334⟩, ⟨bZ HB⟩⟩
     ·replace c45 := Bool.eq_false_iff.mpr c45
      subst c45
      have H1 : (impl_PairLine.j0 k true a0_0 a0_1 false a1_0 a1_1 false a2_0 a2_1 false 1 0) = some (r1, r2) := by rw [if_neg (show ¬ (false = true) by decide)] at H; exact H
      clear H
      have H := H1
      clear H1
      have H' := Aside0.mk H
      clear H
      have hnb81 := NB330_331.out
      have hnc81 := NB331_330.out
      have hnb82 := NB330_332.out
      have hnc82 := NB332_330.out
      have hnb83 := NB330_333.out
      have hnc83 := NB333_330.out
      have hnb84 := NB330_334.out
      have hnc84 := NB334_330.out
      have hcz85_0 : w9.cell? ⟨gb330, 0, none⟩ = some (.int .i64 a0_0) := bc BK330 0
      have hcz85_1 : w9.cell? ⟨gb330, 1, none⟩ = some (.int .i64 a0_1) := bc BK330 1
      have hcz85_2 : w9.cell? ⟨gb330, 2, none⟩ = some (.bool false) := bc BK330 2
      have hfz85_0 := blk_frozen BK330.out 0
      have hfz85_1 := blk_frozen BK330.out 1
      have hfz85_2 := blk_frozen BK330.out 2
      have hnb86 := NB331_332.out
      have hnc86 := NB332_331.out
      have hnb87 := NB331_333.out
      have hnc87 := NB333_331.out
      have hnb88 := NB331_334.out
      have hnc88 := NB334_331.out
      have hcz89_0 : w9.cell? ⟨gb331, 0, none⟩ = some (.int .i64 a1_0) := bc BK331 0
      have hcz89_1 : w9.cell? ⟨gb331, 1, none⟩ = some (.int .i64 a1_1) := bc BK331 1
      have hcz89_2 : w9.cell? ⟨gb331, 2, none⟩ = some (.bool false) := bc BK331 2
      have hfz89_0 := blk_frozen BK331.out 0
      have hfz89_1 := blk_frozen BK331.out 1
      have hfz89_2 := blk_frozen BK331.out 2
      have hnb90 := NB332_333.out
      have hnc90 := NB333_332.out
      have hnb91 := NB332_334.out
      have hnc91 := NB334_332.out
      have hcz92_0 : w9.cell? ⟨gb332, 0, none⟩ = some (.int .i64 a2_0) := bc BK332 0
      have hcz92_1 : w9.cell? ⟨gb332, 1, none⟩ = some (.int .i64 a2_1) := bc BK332 1
      have hcz92_2 : w9.cell? ⟨gb332, 2, none⟩ = some (.bool false) := bc BK332 2
      have hfz92_0 := blk_frozen BK332.out 0
      have hfz92_1 := blk_frozen BK332.out 1
      have hfz92_2 := blk_frozen BK332.out 2
      go_wp2_with (first | (go_at_call 31; (with_reducible refine (impl_PointOk.calls a0_0 a0_1 false false _ A44.out).mono ?_); rintro e w93 ⟨rfl, hb⟩; replace BK330 := bB BK330 hb; replace BK331 := bB BK331 hb; replace BK332 := bB BK332 hb; replace BK333 := bB BK333 hb; replace BK334 := Aside0.mk (blk_below (g := gb334) (o := .cells #[.int .i64 1, .int .i64 0] 31 (0, 0)) (by (with_reducible repeat (first | refine blk_drewN ?_ _ | refine blk_drew ?_ | refine blk_alloc ?_ _)); refine blk_put (cs := #[.int .i64 1, .int .i64 0]) ?_ 1 _ rfl; (with_reducible repeat (first | refine blk_drewN ?_ _ | refine blk_drew ?_ | refine blk_alloc ?_ _)); refine blk_put (cs := #[.int .i64 0, .int .i64 0]) ?_ 0 _ rfl; (with_reducible repeat (first | refine blk_drewN ?_ _ | refine blk_drew ?_ | refine blk_alloc ?_ _)); exact BK334.out) hb); replace HB := bS HB hb; (try clear hb); (try clear hb2); (try clear hk); (try clear hi)))
      go_meet
      case rel => exact ⟨_, (true), (by first | rfl | (simp; done) | (simp [*]; done)), H', ⟨by first | omega | exact Nat.le_refl _⟩, ⟨bP BK330⟩, ⟨bP BK331⟩, ⟨bP BK332⟩, ⟨bP BK333⟩, ⟨bP BK334⟩, ⟨bZ HB⟩⟩
 case rest =>
  clear HC4
  try clear c1
  try clear c2
  try clear p2
  try clear c3
  try clear c4
  try clear c5
  try clear c6
  try clear c7
  try clear c8
  try clear c9
  try clear c10
  try clear c11
  try clear c12
  try clear c13
  try clear c15
  try clear c16
  try clear c17
  try clear c18
  try clear c19
  try clear c21
  try clear c22
  try clear c23
  try clear c24
  try clear c25
  try clear c27
  try clear c28
  try clear c29
  try clear c31
  try clear c32
  try clear c33
  try clear c34
  try clear c35
  try clear c37
  try clear c38
  try clear c39
  try clear c41
  try clear c42
  try clear c45
  try clear c47
  try clear c49
  try clear c50
  try clear c51
  try clear c52
  try clear c54
  try clear c55
  try clear c56
  try clear c58
  try clear c59
  try clear c66
  try clear c67
  try clear c68
  try clear c69
  try clear c71
  try clear c72
  try clear c73
  try clear c75
  try clear c76
  try clear c81
  try clear c82
  try clear c83
  try clear c84
  try clear c86
  try clear c87
  try clear c88
  try clear c90
  try clear c91
  try clear hcz14_0
  try clear hcz14_1
  try clear hcz20_0
  try clear hcz20_1
  try clear hcz20_2
  try clear hcz26_0
  try clear hcz26_1
  try clear hcz26_2
  try clear hcz30_0
  try clear hcz30_1
  try clear hcz30_2
  try clear hcz36_0
  try clear hcz36_1
  try clear hcz36_2
  try clear hcz40_0
  try clear hcz40_1
  try clear hcz40_2
  try clear hcz43_0
  try clear hcz43_1
  try clear hcz43_2
  try clear hcz53_0
  try clear hcz53_1
  try clear hcz53_2
  try clear hcz57_0
  try clear hcz57_1
  try clear hcz57_2
  try clear hcz60_0
  try clear hcz60_1
  try clear hcz60_2
  try clear hcz62_0
  try clear hcz62_1
  try clear hcz62_2
  try clear hcz64_0
  try clear hcz64_1
  try clear hcz64_2
  try clear hcz70_0
  try clear hcz70_1
  try clear hcz70_2
  try clear hcz74_0
  try clear hcz74_1
  try clear hcz74_2
  try clear hcz77_0
  try clear hcz77_1
  try clear hcz77_2
  try clear hcz79_0
  try clear hcz79_1
  try clear hcz79_2
  try clear hcz85_0
  try clear hcz85_1
  try clear hcz85_2
  try clear hcz89_0
  try clear hcz89_1
  try clear hcz89_2
  try clear hcz92_0
  try clear hcz92_1
  try clear hcz92_2
  try clear hfz14_0
  try clear hfz14_1
  try clear hfz20_0
  try clear hfz20_1
  try clear hfz20_2
  try clear hfz26_0
  try clear hfz26_1
  try clear hfz26_2
  try clear hfz30_0
  try clear hfz30_1
  try clear hfz30_2
  try clear hfz36_0
  try clear hfz36_1
  try clear hfz36_2
  try clear hfz40_0
  try clear hfz40_1
  try clear hfz40_2
  try clear hfz43_0
  try clear hfz43_1
  try clear hfz43_2
  try clear hfz53_0
  try clear hfz53_1
  try clear hfz53_2
  try clear hfz57_0
  try clear hfz57_1
  try clear hfz57_2
  try clear hfz60_0
  try clear hfz60_1
  try clear hfz60_2
  try clear hfz62_0
  try clear hfz62_1
  try clear hfz62_2
  try clear hfz64_0
  try clear hfz64_1
  try clear hfz64_2
  try clear hfz70_0
  try clear hfz70_1
  try clear hfz70_2
  try clear hfz74_0
  try clear hfz74_1
  try clear hfz74_2
  try clear hfz77_0
  try clear hfz77_1
  try clear hfz77_2
  try clear hfz79_0
  try clear hfz79_1
  try clear hfz79_2
  try clear hfz85_0
  try clear hfz85_1
  try clear hfz85_2
  try clear hfz89_0
  try clear hfz89_1
  try clear hfz89_2
  try clear hfz92_0
  try clear hfz92_1
  try clear hfz92_2
  obtain ⟨kq, x36_3, rfl, HA, HJ3, BK330, BK331, BK332, BK333, BK334, HB⟩ := hcut
  cases kq with
  | zero => exact absurd HA.out (by simp [impl_PairLine.j0])
  | succ kj3 =>
   have H := HA.out
   clear HA
   simp only [impl_PairLine.j0] at H
   by_cases c94 : x36_3 = true
   ·subst c94
    have H1 : (some (1, 0)) = some (r1, r2) := by rw [if_pos rfl] at H; exact H
    clear H
    have H := H1
    clear H1
    simp only [Option.some.injEq, Prod.mk.injEq] at H
    obtain ⟨rfl, rfl⟩ := H
    have hnb95 := NB334_330.out
    have hnc95 := NB330_334.out
    have hnb96 := NB334_331.out
    have hnc96 := NB331_334.out
    have hnb97 := NB334_332.out
    have hnc97 := NB332_334.out
    have hnb98 := NB334_333.out
    have hnc98 := NB333_334.out
    have hcz99_0 : wc.cell? ⟨gb334, 0, none⟩ = some (.int .i64 1) := bc BK334 0
    have hcz99_1 : wc.cell? ⟨gb334, 1, none⟩ = some (.int .i64 0) := bc BK334 1
    have hfz99_0 := blk_frozen BK334.out 0
    have hfz99_1 := blk_frozen BK334.out 1
    have hnb100 := NB333_330.out
    have hnc100 := NB330_333.out
    have hnb101 := NB333_331.out
    have hnc101 := NB331_333.out
    have hnb102 := NB333_332.out
    have hnc102 := NB332_333.out
    have hcz103_0 : wc.cell? ⟨gb333, 0, none⟩ = some (.int .i64 0) := bc BK333 0
    have hcz103_1 : wc.cell? ⟨gb333, 1, none⟩ = some (.int .i64 0) := bc BK333 1
    have hfz103_0 := blk_frozen BK333.out 0
    have hfz103_1 := blk_frozen BK333.out 1
    go_wp2
    refine bodyPost_ret (results_cell_row rfl _ _ gb333 31 #[.int .i64 1, .int .i64 0] (0, 0) _ rfl (by (with_reducible repeat (first | refine blk_drewN ?_ _ | refine blk_drew ?_ | refine blk_alloc ?_ _)); refine blk_put (cs := #[.int .i64 1, .int .i64 0]) ?_ 1 _ rfl; (with_reducible repeat (first | refine blk_drewN ?_ _ | refine blk_drew ?_ | refine blk_alloc ?_ _)); refine blk_put (cs := #[.int .i64 0, .int .i64 0]) ?_ 0 _ rfl; (with_reducible repeat (first | refine blk_drewN ?_ _ | refine blk_drew ?_ | refine blk_alloc ?_ _)); exact BK333.out) Try.underlying31 rfl (by kernel_rfl)) rfl ?_
    exact ⟨by first | rfl | (simp [errW_none, errW_some] <;> rfl) | (simp [*, errW_none, errW_some] <;> rfl), bZ HB⟩
   ·replace c94 := Bool.eq_false_iff.mpr c94
    subst c94
    have H1 : ((impl_slopeOf.f kj3 a0_0 a0_1 a0_2 a1_0 a1_1 a1_2).bind fun bt338 => (if bt338.2 = true then ((impl_FpSub.f 0 a2_0).bind fun t340 => ((impl_FpSub.f t340 a0_0).bind fun t341 => ((impl_FpSub.f 0 a0_1).bind fun t342 => ((impl_FpMul.f bt338.1 t341).bind fun t343 => ((impl_FpSub.f t342 t343).bind fun t344 => (some (t344, a2_1))))))) else (some (1, 0)))) = some (r1, r2) := by rw [if_neg (show ¬ (false = true) by decide)] at H; exact H
    clear H
    have H := H1
    clear H1
    replace H := Option.bind_eq_some_iff.mp H
    obtain ⟨⟨t338, t339⟩, A1040, H⟩ := H
    replace H : (if t339 = true then ((impl_FpSub.f 0 a2_0).bind fun t340 => ((impl_FpSub.f t340 a0_0).bind fun t341 => ((impl_FpSub.f 0 a0_1).bind fun t342 => ((impl_FpMul.f t338 t341).bind fun t343 => ((impl_FpSub.f t342 t343).bind fun t344 => (some (t344, a2_1))))))) else (some (1, 0))) = some (r1, r2) := H
    have A104 := Aside0.mk A1040
    clear A1040
    by_cases c105 : t339 = true
    ·subst c105
     have H1 : ((impl_FpSub.f 0 a2_0).bind fun t340 => ((impl_FpSub.f t340 a0_0).bind fun t341 => ((impl_FpSub.f 0 a0_1).bind fun t342 => ((impl_FpMul.f t338 t341).bind fun t343 => ((impl_FpSub.f t342 t343).bind fun t344 => (some (t344, a2_1))))))) = some (r1, r2) := by rw [if_pos rfl] at H; exact H
     clear H
     have H := H1
     clear H1
     replace H := Option.bind_eq_some_iff.mp H
     obtain ⟨t340, A1060, H⟩ := H
     replace H : ((impl_FpSub.f t340 a0_0).bind fun t341 => ((impl_FpSub.f 0 a0_1).bind fun t342 => ((impl_FpMul.f t338 t341).bind fun t343 => ((impl_FpSub.f t342 t343).bind fun t344 => (some (t344, a2_1)))))) = some (r1, r2) := H
     have A106 := Aside0.mk A1060
     clear A1060
     replace H := Option.bind_eq_some_iff.mp H
     obtain ⟨t341, A1070, H⟩ := H
     replace H : ((impl_FpSub.f 0 a0_1).bind fun t342 => ((impl_FpMul.f t338 t341).bind fun t343 => ((impl_FpSub.f t342 t343).bind fun t344 => (some (t344, a2_1))))) = some (r1, r2) := H
     have A107 := Aside0.mk A1070
     clear A1070
     replace H := Option.bind_eq_some_iff.mp H
     obtain ⟨t342, A1080, H⟩ := H
     replace H : ((impl_FpMul.f t338 t341).bind fun t343 => ((impl_FpSub.f t342 t343).bind fun t344 => (some (t344, a2_1)))) = some (r1, r2) := H
     have A108 := Aside0.mk A1080
     clear A1080
     replace H := Option.bind_eq_some_iff.mp H
     obtain ⟨t343, A1090, H⟩ := H
     replace H : ((impl_FpSub.f t342 t343).bind fun t344 => (some (t344, a2_1))) = some (r1, r2) := H
     have A109 := Aside0.mk A1090
     clear A1090
     replace H := Option.bind_eq_some_iff.mp H
     obtain ⟨t344, A1100, H⟩ := H
     replace H : (some (t344, a2_1)) = some (r1, r2) := H
     have A110 := Aside0.mk A1100
     clear A1100
     simp only [Option.some.injEq, Prod.mk.injEq] at H
     obtain ⟨rfl, rfl⟩ := H
     have hnb111 := NB330_331.out
     have hnc111 := NB331_330.out
     have hnb112 := NB330_332.out
     have hnc112 := NB332_330.out
     have hnb113 := NB330_333.out
     have hnc113 := NB333_330.out
     have hnb114 := NB330_334.out
     have hnc114 := NB334_330.out
     have hcz115_0 : wc.cell? ⟨gb330, 0, none⟩ = some (.int .i64 a0_0) := bc BK330 0
     have hcz115_1 : wc.cell? ⟨gb330, 1, none⟩ = some (.int .i64 a0_1) := bc BK330 1
     have hcz115_2 : wc.cell? ⟨gb330, 2, none⟩ = some (.bool a0_2) := bc BK330 2
     have hfz115_0 := blk_frozen BK330.out 0
     have hfz115_1 := blk_frozen BK330.out 1
     have hfz115_2 := blk_frozen BK330.out 2
     have hnb116 := NB331_332.out
     have hnc116 := NB332_331.out
     have hnb117 := NB331_333.out
     have hnc117 := NB333_331.out
     have hnb118 := NB331_334.out
     have hnc118 := NB334_331.out
     have hcz119_0 : wc.cell? ⟨gb331, 0, none⟩ = some (.int .i64 a1_0) := bc BK331 0
     have hcz119_1 : wc.cell? ⟨gb331, 1, none⟩ = some (.int .i64 a1_1) := bc BK331 1
     have hcz119_2 : wc.cell? ⟨gb331, 2, none⟩ = some (.bool a1_2) := bc BK331 2
     have hfz119_0 := blk_frozen BK331.out 0
     have hfz119_1 := blk_frozen BK331.out 1
     have hfz119_2 := blk_frozen BK331.out 2
     try go_wp2_with (first | ((with_reducible refine gate_callee (f := 77) rfl ?_); refine goesL_ (some 41) rfl rfl Try.func77 (by kernel_rfl) rfl #[.agg #[.int .i64 a0_0, .int .i64 a0_1, .bool a0_2], .agg #[.int .i64 a1_0, .int .i64 a1_1, .bool a1_2]] rfl (by (try simp only [List.map_toArray, List.map_cons, List.map_nil]); first | done | rfl | (simp only [List.length_drop, List.length_take]; rfl)) ?_; (with_reducible refine (impl_slopeOf.calls kj3 a0_0 a0_1 a0_2 a1_0 a1_1 a1_2 t338 true _ A104.out).mono ?_); rintro e w120 ⟨rfl, hb⟩; refine ⟨_, rfl, ?_⟩; replace BK330 := bB BK330 hb; replace BK331 := bB BK331 hb; replace BK332 := bB BK332 hb; replace BK333 := bB BK333 hb; replace BK334 := bB BK334 hb; replace HB := bS HB hb; (try clear hb); (try clear hb2); (try clear hk); (try clear hi)))
     replace BK330 := Aside0.mk (blk_drew BK330.out)
     replace BK331 := Aside0.mk (blk_drew BK331.out)
     replace BK332 := Aside0.mk (blk_drew BK332.out)
     replace BK333 := Aside0.mk (blk_drew BK333.out)
     replace BK334 := Aside0.mk (blk_drew BK334.out)
     replace HB := Aside0.mk (below_drew1 HB.out)
     refine start_ (n := 7) (S := fun w' => w'.cell? ⟨gb332, 0, none⟩ = some (.int .i64 a2_0) ∧ w'.cell? ⟨gb332, 1, none⟩ = some (.int .i64 a2_1) ∧ w'.cell? ⟨gb332, 2, none⟩ = some (.bool a2_2) ∧ w'.cell? ⟨gb330, 0, none⟩ = some (.int .i64 a0_0) ∧ w'.cell? ⟨gb330, 1, none⟩ = some (.int .i64 a0_1) ∧ w'.cell? ⟨gb330, 2, none⟩ = some (.bool a0_2)) (ds := []) #[false, false, false, false, false, false, false] (by kernel_rfl) rfl rfl ⟨bc BK332 0, bc BK332 1, bc BK332 2, bc BK330 0, bc BK330 1, bc BK330 2⟩ (fun hHeld => ?_)
     generalize w120.drew = w121 at BK330 BK331 BK332 BK333 BK334 HB hHeld ⊢
     refine pure_ (i := 0) (N := some 47) (v := ?_) (a' := ?_) #[true, false, false, false, false, false, false] rfl rfl (by kernel_rfl) (fun _ _ _ h => h) (Or.inl ⟨by rfl, ?_⟩) ?_ ?_
     rotate_left
     ·intro w'
      go_simp
      with_reducible rfl
     rotate_left
     ·simp only [Act.put, List.setIfInBounds_toArray, List.set_cons_zero, List.set_cons_succ, i64_w, i32_w]
      rfl
     refine pure_ (i := 3) (N := some 50) (v := ?_) (a' := ?_) #[true, false, false, true, false, false, false] rfl rfl (by kernel_rfl) (fun _ _ _ h => h) (Or.inl ⟨by rfl, ?_⟩) ?_ ?_
     rotate_left
     ·intro w'
      go_simp
      with_reducible rfl
     rotate_left
     ·simp only [Act.put, List.setIfInBounds_toArray, List.set_cons_zero, List.set_cons_succ, i64_w, i32_w]
      rfl
     refine take_ (i := 1) (N := some 48) (v := ?_) (a' := ?_) #[true, true, false, true, false, false, false] rfl rfl (by kernel_rfl) (fun _ _ _ h => h) (Or.inl ⟨by rfl, ?_⟩) hHeld ?_ ?_
     rotate_left
     ·rintro w' ⟨s0, s1, s2, s3, s4, s5⟩
      go_simp
      with_reducible rfl
     rotate_left
     ·simp only [Act.put, List.setIfInBounds_toArray, List.set_cons_zero, List.set_cons_succ, i64_w, i32_w]
      rfl
     refine take_ (i := 4) (N := some 51) (v := ?_) (a' := ?_) #[true, true, false, true, true, false, false] rfl rfl (by kernel_rfl) (fun _ _ _ h => h) (Or.inl ⟨by rfl, ?_⟩) hHeld ?_ ?_
     rotate_left
     ·rintro w' ⟨s0, s1, s2, s3, s4, s5⟩
      go_simp
      with_reducible rfl
     rotate_left
     ·simp only [Act.put, List.setIfInBounds_toArray, List.set_cons_zero, List.set_cons_succ, i64_w, i32_w]
      rfl
     refine one_ (i := 2) (N := some 49) #[true, true, true, true, true, false, false] rfl rfl (by kernel_rfl) (by decide) (fun K hK => ?_)
     refine goes_ Try.func67 (by kernel_rfl) rfl #[.int .i64 0, .int .i64 a2_0] (by rfl) rfl rfl (by (try simp only [List.map_toArray, List.map_cons, List.map_nil]); first | done | rfl | (simp only [List.length_drop, List.length_take]; rfl)) ?_
     with_reducible refine (impl_FpSub.calls 0 a2_0 t340 _ A106.out).mono ?_
     rintro e w' ⟨rfl, ⟨nd, rfl⟩⟩
     refine ⟨_, rfl, ?_⟩
     refine hK.out _ _ ⟨bc BK332 0, bc BK332 1, bc BK332 2, bc BK330 0, bc BK330 1, bc BK330 2⟩ (fun hHeld => ?_)
     clear hK K
     refine norm_ (a' := ?_) ?_ ?_
     rotate_left
     ·show Act.put _ (some 49) _ = _
      simp only [Act.put, List.setIfInBounds_toArray, List.set_cons_zero, List.set_cons_succ, i64_w, i32_w]
      rfl
     refine one_ (i := 5) (N := some 52) #[true, true, true, true, true, true, false] rfl rfl (by kernel_rfl) (by decide) (fun K hK => ?_)
     refine goes_ Try.func67 (by kernel_rfl) rfl #[.int .i64 t340, .int .i64 a0_0] (by rfl) rfl rfl (by (try simp only [List.map_toArray, List.map_cons, List.map_nil]); first | done | rfl | (simp only [List.length_drop, List.length_take]; rfl)) ?_
     with_reducible refine (impl_FpSub.calls t340 a0_0 t341 _ A107.out).mono ?_
     rintro e w' ⟨rfl, ⟨nd, rfl⟩⟩
     refine ⟨_, rfl, ?_⟩
     refine hK.out _ _ ⟨bc BK332 0, bc BK332 1, bc BK332 2, bc BK330 0, bc BK330 1, bc BK330 2⟩ (fun hHeld => ?_)
     clear hK K
     refine norm_ (a' := ?_) ?_ ?_
     rotate_left
     ·show Act.put _ (some 52) _ = _
      simp only [Act.put, List.setIfInBounds_toArray, List.set_cons_zero, List.set_cons_succ, i64_w, i32_w]
      rfl
     refine pure_ (i := 6) (N := some 10) (v := ?_) (a' := ?_) #[true, true, true, true, true, true, true] rfl rfl (by kernel_rfl) (fun _ _ _ h => h) (Or.inl ⟨by rfl, ?_⟩) ?_ ?_
     rotate_left
     ·intro w'
      go_simp
      with_reducible rfl
     rotate_left
     ·simp only [Act.put, List.setIfInBounds_toArray, List.set_cons_zero, List.set_cons_succ, i64_w, i32_w]
      rfl
     refine done_ (by kernel_rfl) ?_
     try go_wp2
     (try simp only [World.drewN_drewN]); (try (rw [drewN_self w121]; generalize hq_ : World.drewN w121 _ = w121; replace BK330 : Aside0 (w121.heap[gb330]? = some (.cells #[.int .i64 a0_0, .int .i64 a0_1, .bool a0_2] 25 (0, 0))) := ⟨by rw [← hq_]; exact (bP BK330)⟩; replace BK331 : Aside0 (w121.heap[gb331]? = some (.cells #[.int .i64 a1_0, .int .i64 a1_1, .bool a1_2] 25 (0, 0))) := ⟨by rw [← hq_]; exact (bP BK331)⟩; replace BK332 : Aside0 (w121.heap[gb332]? = some (.cells #[.int .i64 a2_0, .int .i64 a2_1, .bool a2_2] 25 (0, 0))) := ⟨by rw [← hq_]; exact (bP BK332)⟩; replace BK333 : Aside0 (w121.heap[gb333]? = some (.cells #[.int .i64 0, .int .i64 0] 31 (0, 0))) := ⟨by rw [← hq_]; exact (bP BK333)⟩; replace BK334 : Aside0 (w121.heap[gb334]? = some (.cells #[.int .i64 1, .int .i64 0] 31 (0, 0))) := ⟨by rw [← hq_]; exact (bP BK334)⟩; replace HB : Aside0 (Below w.heap.size w w121) := ⟨by rw [← hq_]; exact (bZ HB)⟩; clear hq_))
     replace BK330 := Aside0.mk (blk_drew BK330.out)
     replace BK331 := Aside0.mk (blk_drew BK331.out)
     replace BK332 := Aside0.mk (blk_drew BK332.out)
     replace BK333 := Aside0.mk (blk_drew BK333.out)
     replace BK334 := Aside0.mk (blk_drew BK334.out)
     replace HB := Aside0.mk (below_drew1 HB.out)
     refine start_ (n := 11) (S := fun w' => w'.cell? ⟨gb330, 0, none⟩ = some (.int .i64 a0_0) ∧ w'.cell? ⟨gb330, 1, none⟩ = some (.int .i64 a0_1) ∧ w'.cell? ⟨gb330, 2, none⟩ = some (.bool a0_2) ∧ w'.cell? ⟨gb332, 0, none⟩ = some (.int .i64 a2_0) ∧ w'.cell? ⟨gb332, 1, none⟩ = some (.int .i64 a2_1) ∧ w'.cell? ⟨gb332, 2, none⟩ = some (.bool a2_2)) (ds := []) #[false, false, false, false, false, false, false, false, false, false, false] (by kernel_rfl) rfl rfl ⟨bc BK330 0, bc BK330 1, bc BK330 2, bc BK332 0, bc BK332 1, bc BK332 2⟩ (fun hHeld => ?_); refine with_tabW impl_PairLine.tab8 impl_PairLine.bits8 (fun HT_ HW_ => ?_)
     generalize w121.drew = w122 at BK330 BK331 BK332 BK333 BK334 HB hHeld ⊢
     refine pure_ (i := 0) (N := some 53) (v := ?_) (a' := ?_) #[true, false, false, false, false, false, false, false, false, false, false] rfl rfl (any_of HT_.out (by kernel_rfl)) (fun _ _ _ h => h) (Or.inl ⟨by rfl, ?_⟩) ?_ ?_
     rotate_left
     ·intro w'
      go_simp
      with_reducible rfl
     rotate_left
     ·simp only [Act.put, List.setIfInBounds_toArray, List.set_cons_zero, List.set_cons_succ, i64_w, i32_w]
      rfl
     refine pure_ (i := 3) (N := some 56) (v := ?_) (a' := ?_) #[true, false, false, true, false, false, false, false, false, false, false] rfl rfl (any_of HT_.out (by kernel_rfl)) (fun _ _ _ h => h) (Or.inl ⟨by rfl, ?_⟩) ?_ ?_
     rotate_left
     ·intro w'
      go_simp
      with_reducible rfl
     rotate_left
     ·simp only [Act.put, List.setIfInBounds_toArray, List.set_cons_zero, List.set_cons_succ, i64_w, i32_w]
      rfl
     refine pure_ (i := 4) (N := some 57) (v := ?_) (a' := ?_) #[true, false, false, true, true, false, false, false, false, false, false] rfl rfl (any_of HT_.out (by kernel_rfl)) (fun _ _ _ h => h) (Or.inl ⟨by rfl, ?_⟩) ?_ ?_
     rotate_left
     ·intro w'
      go_simp
      with_reducible rfl
     rotate_left
     ·simp only [Act.put, List.setIfInBounds_toArray, List.set_cons_zero, List.set_cons_succ, i64_w, i32_w]
      rfl
     refine pure_ (i := 7) (N := some 60) (v := ?_) (a' := ?_) #[true, false, false, true, true, false, false, true, false, false, false] rfl rfl (any_of HT_.out (by kernel_rfl)) (fun _ _ _ h => h) (Or.inl ⟨by rfl, ?_⟩) ?_ ?_
     rotate_left
     ·intro w'
      go_simp
      with_reducible rfl
     rotate_left
     ·simp only [Act.put, List.setIfInBounds_toArray, List.set_cons_zero, List.set_cons_succ, i64_w, i32_w]
      rfl
     refine take_ (i := 1) (N := some 54) (v := ?_) (a' := ?_) #[true, true, false, true, true, false, false, true, false, false, false] rfl rfl (take_ofW HT_.out HW_.out (by kernel_rfl)) (fun _ _ _ h => h) (Or.inl ⟨by rfl, ?_⟩) hHeld ?_ ?_
     rotate_left
     ·rintro w' ⟨s0, s1, s2, s3, s4, s5⟩
      go_simp
      with_reducible rfl
     rotate_left
     ·simp only [Act.put, List.setIfInBounds_toArray, List.set_cons_zero, List.set_cons_succ, i64_w, i32_w]
      rfl
     refine take_ (i := 8) (N := some 61) (v := ?_) (a' := ?_) #[true, true, false, true, true, false, false, true, true, false, false] rfl rfl (take_ofW HT_.out HW_.out (by kernel_rfl)) (fun _ _ _ h => h) (Or.inl ⟨by rfl, ?_⟩) hHeld ?_ ?_
     rotate_left
     ·rintro w' ⟨s0, s1, s2, s3, s4, s5⟩
      go_simp
      with_reducible rfl
     rotate_left
     ·simp only [Act.put, List.setIfInBounds_toArray, List.set_cons_zero, List.set_cons_succ, i64_w, i32_w]
      rfl
     refine one_ (i := 2) (N := some 55) #[true, true, true, true, true, false, false, true, true, false, false] rfl rfl (one_of HT_.out (by kernel_rfl)) (by decide) (fun K hK => ?_)
     refine goes_ Try.func67 (by kernel_rfl) rfl #[.int .i64 0, .int .i64 a0_1] (by rfl) rfl rfl (by (try simp only [List.map_toArray, List.map_cons, List.map_nil]); first | done | rfl | (simp only [List.length_drop, List.length_take]; rfl)) ?_
     with_reducible refine (impl_FpSub.calls 0 a0_1 t342 _ A108.out).mono ?_
     rintro e w' ⟨rfl, ⟨nd, rfl⟩⟩
     refine ⟨_, rfl, ?_⟩
     refine hK.out _ _ ⟨bc BK330 0, bc BK330 1, bc BK330 2, bc BK332 0, bc BK332 1, bc BK332 2⟩ (fun hHeld => ?_)
     clear hK K
     refine norm_ (a' := ?_) ?_ ?_
     rotate_left
     ·show Act.put _ (some 55) _ = _
      simp only [Act.put, List.setIfInBounds_toArray, List.set_cons_zero, List.set_cons_succ, i64_w, i32_w]
      rfl
     refine one_ (i := 5) (N := some 58) #[true, true, true, true, true, true, false, true, true, false, false] rfl rfl (one_of HT_.out (by kernel_rfl)) (by decide) (fun K hK => ?_)
     refine goes_ Try.func68 (by kernel_rfl) rfl #[.int .i64 t338, .int .i64 t341] (by rfl) rfl rfl (by (try simp only [List.map_toArray, List.map_cons, List.map_nil]); first | done | rfl | (simp only [List.length_drop, List.length_take]; rfl)) ?_
     with_reducible refine (impl_FpMul.calls t338 t341 t343 _ A109.out).mono ?_
     rintro e w' ⟨rfl, ⟨nd, rfl⟩⟩
     refine ⟨_, rfl, ?_⟩
     refine hK.out _ _ ⟨bc BK330 0, bc BK330 1, bc BK330 2, bc BK332 0, bc BK332 1, bc BK332 2⟩ (fun hHeld => ?_)
     clear hK K
     refine norm_ (a' := ?_) ?_ ?_
     rotate_left
     ·show Act.put _ (some 58) _ = _
      simp only [Act.put, List.setIfInBounds_toArray, List.set_cons_zero, List.set_cons_succ, i64_w, i32_w]
      rfl
     refine one_ (i := 6) (N := some 59) #[true, true, true, true, true, true, true, true, true, false, false] rfl rfl (one_of HT_.out (by kernel_rfl)) (by decide) (fun K hK => ?_)
     refine goes_ Try.func67 (by kernel_rfl) rfl #[.int .i64 t342, .int .i64 t343] (by rfl) rfl rfl (by (try simp only [List.map_toArray, List.map_cons, List.map_nil]); first | done | rfl | (simp only [List.length_drop, List.length_take]; rfl)) ?_
     with_reducible refine (impl_FpSub.calls t342 t343 t344 _ A110.out).mono ?_
     rintro e w' ⟨rfl, ⟨nd, rfl⟩⟩
     refine ⟨_, rfl, ?_⟩
     refine hK.out _ _ ⟨bc BK330 0, bc BK330 1, bc BK330 2, bc BK332 0, bc BK332 1, bc BK332 2⟩ (fun hHeld => ?_)
     clear hK K
     refine norm_ (a' := ?_) ?_ ?_
     rotate_left
     ·show Act.put _ (some 59) _ = _
      simp only [Act.put, List.setIfInBounds_toArray, List.set_cons_zero, List.set_cons_succ, i64_w, i32_w]
      rfl
     refine pure_ (i := 9) (N := some 62) (v := ?_) (a' := ?_) #[true, true, true, true, true, true, true, true, true, true, false] rfl rfl (any_of HT_.out (by kernel_rfl)) (fun _ _ _ h => h) (Or.inl ⟨by rfl, ?_⟩) ?_ ?_
     rotate_left
     ·intro w'
      go_simp
      with_reducible rfl
     rotate_left
     ·simp only [Act.put, List.setIfInBounds_toArray, List.set_cons_zero, List.set_cons_succ, i64_w, i32_w]
      rfl
     refine one_ (i := 10) (N := none) #[true, true, true, true, true, true, true, true, true, true, true] rfl rfl (one_of HT_.out (by kernel_rfl)) (by decide) (fun K hK => ?_)
     have hs123 : w122.cell? ⟨gb333, 0, none⟩ = some (.int .i64 0) := bc BK333 0
     have hfs123 := blk_frozen BK333.out 0
     have hns123_0 := NB330_333.out
     have hns123_1 := NB331_333.out
     have hns123_2 := NB332_333.out
     have hns123_4 := NB334_333.out
     have hms123_0 := NB333_330.out
     have hms123_1 := NB333_331.out
     have hms123_2 := NB333_332.out
     have hms123_4 := NB333_334.out
     have hs124 : w122.cell? ⟨gb333, 1, none⟩ = some (.int .i64 0) := bc BK333 1
     have hfs124 := blk_frozen BK333.out 1
     have hns124_0 := NB330_333.out
     have hns124_1 := NB331_333.out
     have hns124_2 := NB332_333.out
     have hns124_4 := NB334_333.out
     have hms124_0 := NB333_330.out
     have hms124_1 := NB333_331.out
     have hms124_2 := NB333_332.out
     have hms124_4 := NB333_334.out
     refine skip_ (w1 := ?_) (by rfl) rfl ?_ ?_
     rotate_left
     ·go_simp
      rfl
     refine hK.out _ _ ⟨((cell_far (p := ⟨gb333, _, none⟩) NB330_333.out _).trans (((cell_far (p := ⟨gb333, _, none⟩) NB330_333.out _).trans (hHeld.1)))), ((cell_far (p := ⟨gb333, _, none⟩) NB330_333.out _).trans (((cell_far (p := ⟨gb333, _, none⟩) NB330_333.out _).trans (hHeld.2.1)))), ((cell_far (p := ⟨gb333, _, none⟩) NB330_333.out _).trans (((cell_far (p := ⟨gb333, _, none⟩) NB330_333.out _).trans (hHeld.2.2.1)))), ((cell_far (p := ⟨gb333, _, none⟩) NB332_333.out _).trans (((cell_far (p := ⟨gb333, _, none⟩) NB332_333.out _).trans (hHeld.2.2.2.1)))), ((cell_far (p := ⟨gb333, _, none⟩) NB332_333.out _).trans (((cell_far (p := ⟨gb333, _, none⟩) NB332_333.out _).trans (hHeld.2.2.2.2.1)))), ((cell_far (p := ⟨gb333, _, none⟩) NB332_333.out _).trans (((cell_far (p := ⟨gb333, _, none⟩) NB332_333.out _).trans (hHeld.2.2.2.2.2))))⟩ (fun hHeld => ?_)
     clear hK K
     refine done_ (done_of HT_.out (by kernel_rfl)) ?_
     try go_wp2
     refine bodyPost_ret (results_cell_row rfl _ _ gb333 31 #[.int .i64 t344, .int .i64 a2_1] (0, 0) _ rfl (by (with_reducible repeat (first | refine blk_drewN ?_ _ | refine blk_drew ?_ | refine blk_alloc ?_ _)); refine blk_put (cs := #[.int .i64 t344, .int .i64 0]) ?_ 1 _ rfl; (with_reducible repeat (first | refine blk_drewN ?_ _ | refine blk_drew ?_ | refine blk_alloc ?_ _)); refine blk_put (cs := #[.int .i64 0, .int .i64 0]) ?_ 0 _ rfl; (with_reducible repeat (first | refine blk_drewN ?_ _ | refine blk_drew ?_ | refine blk_alloc ?_ _)); exact BK333.out) Try.underlying31 rfl (by kernel_rfl)) rfl ?_
     exact ⟨by first | rfl | (simp [errW_none, errW_some] <;> rfl) | (simp [*, errW_none, errW_some] <;> rfl), bZ HB⟩
    ·replace c105 := Bool.eq_false_iff.mpr c105
     subst c105
     have H1 : (some (1, 0)) = some (r1, r2) := by rw [if_neg (show ¬ (false = true) by decide)] at H; exact H
     clear H
     have H := H1
     clear H1
     simp only [Option.some.injEq, Prod.mk.injEq] at H
     obtain ⟨rfl, rfl⟩ := H
     have hnb125 := NB330_331.out
     have hnc125 := NB331_330.out
     have hnb126 := NB330_332.out
     have hnc126 := NB332_330.out
     have hnb127 := NB330_333.out
     have hnc127 := NB333_330.out
     have hnb128 := NB330_334.out
     have hnc128 := NB334_330.out
     have hcz129_0 : wc.cell? ⟨gb330, 0, none⟩ = some (.int .i64 a0_0) := bc BK330 0
     have hcz129_1 : wc.cell? ⟨gb330, 1, none⟩ = some (.int .i64 a0_1) := bc BK330 1
     have hcz129_2 : wc.cell? ⟨gb330, 2, none⟩ = some (.bool a0_2) := bc BK330 2
     have hfz129_0 := blk_frozen BK330.out 0
     have hfz129_1 := blk_frozen BK330.out 1
     have hfz129_2 := blk_frozen BK330.out 2
     have hnb130 := NB331_332.out
     have hnc130 := NB332_331.out
     have hnb131 := NB331_333.out
     have hnc131 := NB333_331.out
     have hnb132 := NB331_334.out
     have hnc132 := NB334_331.out
     have hcz133_0 : wc.cell? ⟨gb331, 0, none⟩ = some (.int .i64 a1_0) := bc BK331 0
     have hcz133_1 : wc.cell? ⟨gb331, 1, none⟩ = some (.int .i64 a1_1) := bc BK331 1
     have hcz133_2 : wc.cell? ⟨gb331, 2, none⟩ = some (.bool a1_2) := bc BK331 2
     have hfz133_0 := blk_frozen BK331.out 0
     have hfz133_1 := blk_frozen BK331.out 1
     have hfz133_2 := blk_frozen BK331.out 2
     go_wp2_with (first | ((with_reducible refine gate_callee (f := 77) rfl ?_); refine goesL_ (some 41) rfl rfl Try.func77 (by kernel_rfl) rfl #[.agg #[.int .i64 a0_0, .int .i64 a0_1, .bool a0_2], .agg #[.int .i64 a1_0, .int .i64 a1_1, .bool a1_2]] rfl (by (try simp only [List.map_toArray, List.map_cons, List.map_nil]); first | done | rfl | (simp only [List.length_drop, List.length_take]; rfl)) ?_; (with_reducible refine (impl_slopeOf.calls kj3 a0_0 a0_1 a0_2 a1_0 a1_1 a1_2 t338 false _ A104.out).mono ?_); rintro e w134 ⟨rfl, hb⟩; refine ⟨_, rfl, ?_⟩; replace BK330 := bB BK330 hb; replace BK331 := bB BK331 hb; replace BK332 := bB BK332 hb; replace BK333 := bB BK333 hb; replace BK334 := bB BK334 hb; replace HB := bS HB hb; (try clear hb); (try clear hb2); (try clear hk); (try clear hi); have hnb135 := NB334_332.out; have hnc135 := NB332_334.out; have hnb136 := NB334_333.out; have hnc136 := NB333_334.out; have hcz137_0 : w134.cell? ⟨gb334, 0, none⟩ = some (.int .i64 1) := bc BK334 0; have hcz137_1 : w134.cell? ⟨gb334, 1, none⟩ = some (.int .i64 0) := bc BK334 1; have hfz137_0 := blk_frozen BK334.out 0; have hfz137_1 := blk_frozen BK334.out 1; have hnb138 := NB333_332.out; have hnc138 := NB332_333.out; have hcz139_0 : w134.cell? ⟨gb333, 0, none⟩ = some (.int .i64 0) := bc BK333 0; have hcz139_1 : w134.cell? ⟨gb333, 1, none⟩ = some (.int .i64 0) := bc BK333 1; have hfz139_0 := blk_frozen BK333.out 0; have hfz139_1 := blk_frozen BK333.out 1))
     refine bodyPost_ret (results_cell_row rfl _ _ gb333 31 #[.int .i64 1, .int .i64 0] (0, 0) _ rfl (by (with_reducible repeat (first | refine blk_drewN ?_ _ | refine blk_drew ?_ | refine blk_alloc ?_ _)); refine blk_put (cs := #[.int .i64 1, .int .i64 0]) ?_ 1 _ rfl; (with_reducible repeat (first | refine blk_drewN ?_ _ | refine blk_drew ?_ | refine blk_alloc ?_ _)); refine blk_put (cs := #[.int .i64 0, .int .i64 0]) ?_ 0 _ rfl; (with_reducible repeat (first | refine blk_drewN ?_ _ | refine blk_drew ?_ | refine blk_alloc ?_ _)); exact BK333.out) Try.underlying31 rfl (by kernel_rfl)) rfl ?_
     exact ⟨by first | rfl | (simp [errW_none, errW_some] <;> rfl) | (simp [*, errW_none, errW_some] <;> rfl), bZ HB⟩
/-! ### bits_Len64: function 106 -/
def bits_Len64.j0 : Nat → Int → Int → Option (Int)
 | 0, _, _ => none
 | k + 1, x0, x2 => if x0 ≥ 65536 then (if (x0 / 65536) ≥ 256 then (if 0 ≤ (((x0 / 65536) / 256) % 256) then (if (((x0 / 65536) / 256) % 256) < 256 then (some (wrap64 ((wrap64 ((wrap64 (x2 + 16)) + 8)) + (wrap64 (bt (⟨#[0, 1, 2, 2, 3, 3, 3, 3, 4, 4, 4, 4, 4, 4, 4, 4, 5, 5, 5, 5, 5, 5, 5, 5, 5, 5, 5, 5, 5, 5, 5, 5, 6, 6, 6, 6, 6, 6, 6, 6, 6, 6, 6, 6, 6, 6, 6, 6, 6, 6, 6, 6, 6, 6, 6, 6, 6, 6, 6, 6, 6, 6, 6, 6, 7, 7, 7, 7, 7, 7, 7, 7, 7, 7, 7, 7, 7, 7, 7, 7, 7, 7, 7, 7, 7, 7, 7, 7, 7, 7, 7, 7, 7, 7, 7, 7, 7, 7, 7, 7, 7, 7, 7, 7, 7, 7, 7, 7, 7, 7, 7, 7, 7, 7, 7, 7, 7, 7, 7, 7, 7, 7, 7, 7, 7, 7, 7, 7, 8, 8, 8, 8, 8, 8, 8, 8, 8, 8, 8, 8, 8, 8, 8, 8, 8, 8, 8, 8, 8, 8, 8, 8, 8, 8, 8, 8, 8, 8, 8, 8, 8, 8, 8, 8, 8, 8, 8, 8, 8, 8, 8, 8, 8, 8, 8, 8, 8, 8, 8, 8, 8, 8, 8, 8, 8, 8, 8, 8, 8, 8, 8, 8, 8, 8, 8, 8, 8, 8, 8, 8, 8, 8, 8, 8, 8, 8, 8, 8, 8, 8, 8, 8, 8, 8, 8, 8, 8, 8, 8, 8, 8, 8, 8, 8, 8, 8, 8, 8, 8, 8, 8, 8, 8, 8, 8, 8, 8, 8, 8, 8, 8, 8, 8, 8, 8, 8, 8, 8, 8, 8, 8, 8, 8, 8, 8, 8]⟩ : ByteArray) (((x0 / 65536) / 256) % 256)))))) else (none)) else (none)) else (if 0 ≤ ((x0 / 65536) % 256) then (if ((x0 / 65536) % 256) < 256 then (some (wrap64 ((wrap64 (x2 + 16)) + (wrap64 (bt (⟨#[0, 1, 2, 2, 3, 3, 3, 3, 4, 4, 4, 4, 4, 4, 4, 4, 5, 5, 5, 5, 5, 5, 5, 5, 5, 5, 5, 5, 5, 5, 5, 5, 6, 6, 6, 6, 6, 6, 6, 6, 6, 6, 6, 6, 6, 6, 6, 6, 6, 6, 6, 6, 6, 6, 6, 6, 6, 6, 6, 6, 6, 6, 6, 6, 7, 7, 7, 7, 7, 7, 7, 7, 7, 7, 7, 7, 7, 7, 7, 7, 7, 7, 7, 7, 7, 7, 7, 7, 7, 7, 7, 7, 7, 7, 7, 7, 7, 7, 7, 7, 7, 7, 7, 7, 7, 7, 7, 7, 7, 7, 7, 7, 7, 7, 7, 7, 7, 7, 7, 7, 7, 7, 7, 7, 7, 7, 7, 7, 8, 8, 8, 8, 8, 8, 8, 8, 8, 8, 8, 8, 8, 8, 8, 8, 8, 8, 8, 8, 8, 8, 8, 8, 8, 8, 8, 8, 8, 8, 8, 8, 8, 8, 8, 8, 8, 8, 8, 8, 8, 8, 8, 8, 8, 8, 8, 8, 8, 8, 8, 8, 8, 8, 8, 8, 8, 8, 8, 8, 8, 8, 8, 8, 8, 8, 8, 8, 8, 8, 8, 8, 8, 8, 8, 8, 8, 8, 8, 8, 8, 8, 8, 8, 8, 8, 8, 8, 8, 8, 8, 8, 8, 8, 8, 8, 8, 8, 8, 8, 8, 8, 8, 8, 8, 8, 8, 8, 8, 8, 8, 8, 8, 8, 8, 8, 8, 8, 8, 8, 8, 8, 8, 8, 8, 8, 8, 8]⟩ : ByteArray) ((x0 / 65536) % 256)))))) else (none)) else (none))) else (if x0 ≥ 256 then (if 0 ≤ ((x0 / 256) % 256) then (if ((x0 / 256) % 256) < 256 then (some (wrap64 ((wrap64 (x2 + 8)) + (wrap64 (bt (⟨#[0, 1, 2, 2, 3, 3, 3, 3, 4, 4, 4, 4, 4, 4, 4, 4, 5, 5, 5, 5, 5, 5, 5, 5, 5, 5, 5, 5, 5, 5, 5, 5, 6, 6, 6, 6, 6, 6, 6, 6, 6, 6, 6, 6, 6, 6, 6, 6, 6, 6, 6, 6, 6, 6, 6, 6, 6, 6, 6, 6, 6, 6, 6, 6, 7, 7, 7, 7, 7, 7, 7, 7, 7, 7, 7, 7, 7, 7, 7, 7, 7, 7, 7, 7, 7, 7, 7, 7, 7, 7, 7, 7, 7, 7, 7, 7, 7, 7, 7, 7, 7, 7, 7, 7, 7, 7, 7, 7, 7, 7, 7, 7, 7, 7, 7, 7, 7, 7, 7, 7, 7, 7, 7, 7, 7, 7, 7, 7, 8, 8, 8, 8, 8, 8, 8, 8, 8, 8, 8, 8, 8, 8, 8, 8, 8, 8, 8, 8, 8, 8, 8, 8, 8, 8, 8, 8, 8, 8, 8, 8, 8, 8, 8, 8, 8, 8, 8, 8, 8, 8, 8, 8, 8, 8, 8, 8, 8, 8, 8, 8, 8, 8, 8, 8, 8, 8, 8, 8, 8, 8, 8, 8, 8, 8, 8, 8, 8, 8, 8, 8, 8, 8, 8, 8, 8, 8, 8, 8, 8, 8, 8, 8, 8, 8, 8, 8, 8, 8, 8, 8, 8, 8, 8, 8, 8, 8, 8, 8, 8, 8, 8, 8, 8, 8, 8, 8, 8, 8, 8, 8, 8, 8, 8, 8, 8, 8, 8, 8, 8, 8, 8, 8, 8, 8, 8, 8]⟩ : ByteArray) ((x0 / 256) % 256)))))) else (none)) else (none)) else (if 0 ≤ ((x0) % 256) then (if ((x0) % 256) < 256 then (some (wrap64 (x2 + (wrap64 (bt (⟨#[0, 1, 2, 2, 3, 3, 3, 3, 4, 4, 4, 4, 4, 4, 4, 4, 5, 5, 5, 5, 5, 5, 5, 5, 5, 5, 5, 5, 5, 5, 5, 5, 6, 6, 6, 6, 6, 6, 6, 6, 6, 6, 6, 6, 6, 6, 6, 6, 6, 6, 6, 6, 6, 6, 6, 6, 6, 6, 6, 6, 6, 6, 6, 6, 7, 7, 7, 7, 7, 7, 7, 7, 7, 7, 7, 7, 7, 7, 7, 7, 7, 7, 7, 7, 7, 7, 7, 7, 7, 7, 7, 7, 7, 7, 7, 7, 7, 7, 7, 7, 7, 7, 7, 7, 7, 7, 7, 7, 7, 7, 7, 7, 7, 7, 7, 7, 7, 7, 7, 7, 7, 7, 7, 7, 7, 7, 7, 7, 8, 8, 8, 8, 8, 8, 8, 8, 8, 8, 8, 8, 8, 8, 8, 8, 8, 8, 8, 8, 8, 8, 8, 8, 8, 8, 8, 8, 8, 8, 8, 8, 8, 8, 8, 8, 8, 8, 8, 8, 8, 8, 8, 8, 8, 8, 8, 8, 8, 8, 8, 8, 8, 8, 8, 8, 8, 8, 8, 8, 8, 8, 8, 8, 8, 8, 8, 8, 8, 8, 8, 8, 8, 8, 8, 8, 8, 8, 8, 8, 8, 8, 8, 8, 8, 8, 8, 8, 8, 8, 8, 8, 8, 8, 8, 8, 8, 8, 8, 8, 8, 8, 8, 8, 8, 8, 8, 8, 8, 8, 8, 8, 8, 8, 8, 8, 8, 8, 8, 8, 8, 8, 8, 8, 8, 8, 8, 8]⟩ : ByteArray) ((x0) % 256)))))) else (none)) else (none)))
def bits_Len64.f (k : Nat) (a0 : Int) : Option (Int) := if a0 ≥ 4294967296 then (bits_Len64.j0 k (a0 / 4294967296) 32) else (bits_Len64.j0 k a0 0)
theorem bits_Len64.mono_l : ∀ k, (∀ y0 y1, LeO (bits_Len64.j0 k y0 y1) (bits_Len64.j0 (k + 1) y0 y1))
 | 0 => fun _ _ r h => by simp [bits_Len64.j0] at h
 | k + 1 => by
  have ih0 := bits_Len64.mono_l k
  ·intro y0 y1
   unfold bits_Len64.j0
   repeat' first
   | (with_reducible exact ih0 _ _)
   | (with_reducible exact LeO.refl _)
   | (with_reducible exact LeO.none _)
   | (with_reducible refine LeO.ite ?_ ?_)
   | (with_reducible refine LeO.bind ?_ (fun _ => ?_))
   | exact ih0 _ _
   | exact LeO.none _
   | refine LeO.ite ?_ ?_
   | refine LeO.bind ?_ (fun _ => ?_)
theorem bits_Len64.mono : ∀ a0 k, LeO (bits_Len64.f k a0) (bits_Len64.f (k + 1) a0) := by
 intro a0 k
 have ih0 := bits_Len64.mono_l k
 unfold bits_Len64.f
 repeat' first
   | (with_reducible exact ih0 _ _)
   | (with_reducible exact LeO.refl _)
   | (with_reducible exact LeO.none _)
   | (with_reducible refine LeO.ite ?_ ?_)
   | (with_reducible refine LeO.bind ?_ (fun _ => ?_))
   | exact ih0 _ _
   | exact LeO.none _
   | refine LeO.ite ?_ ?_
   | refine LeO.bind ?_ (fun _ => ?_)
set_option maxHeartbeats 8000000 in
set_option maxRecDepth 100000 in
theorem bits_Len64.calls (k : Nat) (a0 : Int) (r : Int) (w : World) (h : bits_Len64.f k a0 = some r) :
  Calls Try.prog 106 #[.int .u64 a0] w fun e w' => e = .returned (.int .i64 r) ∧ Drawn0 w w' := by
 have H : (if a0 ≥ 4294967296 then (bits_Len64.j0 k (a0 / 4294967296) 32) else (bits_Len64.j0 k a0 0)) = some r := h
 clear h
 have HC2 := Aside0.mk H
 clear H
 go_enter Try.func106, Try.ntmps106
 go_upto_if 4 with (fail)
 go_cut [0, 2] (fun v0 v2 wc => ∃ (kq : Nat) (x0_1 : Int) (x2_1 : Int), v0 = .int .u64 x0_1 ∧ v2 = .int .i64 x2_1 ∧ Aside0 (bits_Len64.j0 kq x0_1 x2_1 = some r) ∧ Aside0 (kq ≤ k) ∧ Drawn0 w wc)
 case first =>
  have H := HC2.out
  clear HC2
  by_cases c3 : a0 ≥ 4294967296
  ·rw [if_pos c3] at H
   have c3b0 : decide (4294967296 ≤ a0) = true := decide_eq_true c3
   clear c3
   (first | rw [c3b0] | (simp only [i64_w, i32_w]; rw [c3b0]) | rw [c3b1] | skip)
   have H' := Aside0.mk H
   clear H
   go_wp2
   go_meet
   case rel => exact ⟨_, (a0 / 4294967296), (32), (by first | rfl | (simp; done) | (simp [*]; done)), (by first | rfl | (simp; done) | (simp [*]; done)), H', ⟨by first | omega | exact Nat.le_refl _⟩, by repeat (first | exact Drawn0.refl _ | apply Drawn0.step)⟩
  ·rw [if_neg c3] at H
   have c3b0 : decide (4294967296 ≤ a0) = false := decide_eq_false c3
   clear c3
   (first | rw [c3b0] | (simp only [i64_w, i32_w]; rw [c3b0]) | rw [c3b1] | skip)
   have H' := Aside0.mk H
   clear H
   go_wp2
   go_meet
   case rel => exact ⟨_, (a0), (0), (by first | rfl | (simp; done) | (simp [*]; done)), (by first | rfl | (simp; done) | (simp [*]; done)), H', ⟨by first | omega | exact Nat.le_refl _⟩, by repeat (first | exact Drawn0.refl _ | apply Drawn0.step)⟩
 case rest =>
  clear HC2
  try clear c1
  try clear p2
  try clear c3
  try clear c3b0
  obtain ⟨kq, x0_1, x2_1, rfl, rfl, HA, HJ1, ⟨mc1, rfl⟩⟩ := hcut
  cases kq with
  | zero => exact absurd HA.out (by simp [bits_Len64.j0])
  | succ kj1 =>
   have H := HA.out
   clear HA
   simp only [bits_Len64.j0] at H
   by_cases c4 : x0_1 ≥ 65536
   ·rw [if_pos c4] at H
    have c4b0 : decide (65536 ≤ x0_1) = true := decide_eq_true c4
    clear c4
    by_cases c5 : (x0_1 / 65536) ≥ 256
    ·rw [if_pos c5] at H
     have c5b0 : decide (256 ≤ (x0_1 / 65536)) = true := decide_eq_true c5
     clear c5
     obtain ⟨ji6, hji6⟩ : ∃ j_ : Int, (((x0_1 / 65536) / 256) % 256) = j_ := ⟨_, rfl⟩
     replace H : (if 0 ≤ (ji6) then (if (ji6) < 256 then (some (wrap64 ((wrap64 ((wrap64 (x2_1 + 16)) + 8)) + (wrap64 (bt (⟨#[0, 1, 2, 2, 3, 3, 3, 3, 4, 4, 4, 4, 4, 4, 4, 4, 5, 5, 5, 5, 5, 5, 5, 5, 5, 5, 5, 5, 5, 5, 5, 5, 6, 6, 6, 6, 6, 6, 6, 6, 6, 6, 6, 6, 6, 6, 6, 6, 6, 6, 6, 6, 6, 6, 6, 6, 6, 6, 6, 6, 6, 6, 6, 6, 7, 7, 7, 7, 7, 7, 7, 7, 7, 7, 7, 7, 7, 7, 7, 7, 7, 7, 7, 7, 7, 7, 7, 7, 7, 7, 7, 7, 7, 7, 7, 7, 7, 7, 7, 7, 7, 7, 7, 7, 7, 7, 7, 7, 7, 7, 7, 7, 7, 7, 7, 7, 7, 7, 7, 7, 7, 7, 7, 7, 7, 7, 7, 7, 8, 8, 8, 8, 8, 8, 8, 8, 8, 8, 8, 8, 8, 8, 8, 8, 8, 8, 8, 8, 8, 8, 8, 8, 8, 8, 8, 8, 8, 8, 8, 8, 8, 8, 8, 8, 8, 8, 8, 8, 8, 8, 8, 8, 8, 8, 8, 8, 8, 8, 8, 8, 8, 8, 8, 8, 8, 8, 8, 8, 8, 8, 8, 8, 8, 8, 8, 8, 8, 8, 8, 8, 8, 8, 8, 8, 8, 8, 8, 8, 8, 8, 8, 8, 8, 8, 8, 8, 8, 8, 8, 8, 8, 8, 8, 8, 8, 8, 8, 8, 8, 8, 8, 8, 8, 8, 8, 8, 8, 8, 8, 8, 8, 8, 8, 8, 8, 8, 8, 8, 8, 8, 8, 8, 8, 8, 8, 8]⟩ : ByteArray) (ji6)))))) else (none)) else (none)) = some r := by first | (rw [hji6] at H; exact H) | (simp only [hji6] at H ⊢; exact H)
     by_cases c7 : 0 ≤ (ji6)
     ·rw [if_pos c7] at H
      have c7b0 : decide (0 ≤ (ji6)) = true := decide_eq_true c7
      clear c7
      by_cases c8 : (ji6) < 256
      ·rw [if_pos c8] at H
       have c8b0 : decide ((ji6) < 256) = true := decide_eq_true c8
       clear c8
       obtain rfl := Option.some.inj H
       have p9 : 0 ≤ ((ji6) : Int) := of_decide_eq_true (by first | (with_reducible assumption) | assumption)
       have q9 : (ji6) < (256 : Int) := of_decide_eq_true (by first | (with_reducible assumption) | assumption)
       have hx9 := bt_at (⟨#[0, 1, 2, 2, 3, 3, 3, 3, 4, 4, 4, 4, 4, 4, 4, 4, 5, 5, 5, 5, 5, 5, 5, 5, 5, 5, 5, 5, 5, 5, 5, 5, 6, 6, 6, 6, 6, 6, 6, 6, 6, 6, 6, 6, 6, 6, 6, 6, 6, 6, 6, 6, 6, 6, 6, 6, 6, 6, 6, 6, 6, 6, 6, 6, 7, 7, 7, 7, 7, 7, 7, 7, 7, 7, 7, 7, 7, 7, 7, 7, 7, 7, 7, 7, 7, 7, 7, 7, 7, 7, 7, 7, 7, 7, 7, 7, 7, 7, 7, 7, 7, 7, 7, 7, 7, 7, 7, 7, 7, 7, 7, 7, 7, 7, 7, 7, 7, 7, 7, 7, 7, 7, 7, 7, 7, 7, 7, 7, 8, 8, 8, 8, 8, 8, 8, 8, 8, 8, 8, 8, 8, 8, 8, 8, 8, 8, 8, 8, 8, 8, 8, 8, 8, 8, 8, 8, 8, 8, 8, 8, 8, 8, 8, 8, 8, 8, 8, 8, 8, 8, 8, 8, 8, 8, 8, 8, 8, 8, 8, 8, 8, 8, 8, 8, 8, 8, 8, 8, 8, 8, 8, 8, 8, 8, 8, 8, 8, 8, 8, 8, 8, 8, 8, 8, 8, 8, 8, 8, 8, 8, 8, 8, 8, 8, 8, 8, 8, 8, 8, 8, 8, 8, 8, 8, 8, 8, 8, 8, 8, 8, 8, 8, 8, 8, 8, 8, 8, 8, 8, 8, 8, 8, 8, 8, 8, 8, 8, 8, 8, 8, 8, 8, 8, 8, 8, 8]⟩ : ByteArray) (ji6)
       replace p9 := eq_true p9
       replace q9 := eq_true q9
       go_wp2
       go_ret
       exact ⟨by first | rfl | (simp; done) | (simp only [← hji6] <;> (first | rfl | simp)) | (simp [*]; done), by repeat (first | exact Drawn0.refl _ | apply Drawn0.step)⟩
      ·rw [if_neg c8] at H
       exact absurd H (by simp)
     ·rw [if_neg c7] at H
      exact absurd H (by simp)
    ·rw [if_neg c5] at H
     have c5b0 : decide (256 ≤ (x0_1 / 65536)) = false := decide_eq_false c5
     clear c5
     obtain ⟨ji10, hji10⟩ : ∃ j_ : Int, ((x0_1 / 65536) % 256) = j_ := ⟨_, rfl⟩
     replace H : (if 0 ≤ (ji10) then (if (ji10) < 256 then (some (wrap64 ((wrap64 (x2_1 + 16)) + (wrap64 (bt (⟨#[0, 1, 2, 2, 3, 3, 3, 3, 4, 4, 4, 4, 4, 4, 4, 4, 5, 5, 5, 5, 5, 5, 5, 5, 5, 5, 5, 5, 5, 5, 5, 5, 6, 6, 6, 6, 6, 6, 6, 6, 6, 6, 6, 6, 6, 6, 6, 6, 6, 6, 6, 6, 6, 6, 6, 6, 6, 6, 6, 6, 6, 6, 6, 6, 7, 7, 7, 7, 7, 7, 7, 7, 7, 7, 7, 7, 7, 7, 7, 7, 7, 7, 7, 7, 7, 7, 7, 7, 7, 7, 7, 7, 7, 7, 7, 7, 7, 7, 7, 7, 7, 7, 7, 7, 7, 7, 7, 7, 7, 7, 7, 7, 7, 7, 7, 7, 7, 7, 7, 7, 7, 7, 7, 7, 7, 7, 7, 7, 8, 8, 8, 8, 8, 8, 8, 8, 8, 8, 8, 8, 8, 8, 8, 8, 8, 8, 8, 8, 8, 8, 8, 8, 8, 8, 8, 8, 8, 8, 8, 8, 8, 8, 8, 8, 8, 8, 8, 8, 8, 8, 8, 8, 8, 8, 8, 8, 8, 8, 8, 8, 8, 8, 8, 8, 8, 8, 8, 8, 8, 8, 8, 8, 8, 8, 8, 8, 8, 8, 8, 8, 8, 8, 8, 8, 8, 8, 8, 8, 8, 8, 8, 8, 8, 8, 8, 8, 8, 8, 8, 8, 8, 8, 8, 8, 8, 8, 8, 8, 8, 8, 8, 8, 8, 8, 8, 8, 8, 8, 8, 8, 8, 8, 8, 8, 8, 8, 8, 8, 8, 8, 8, 8, 8, 8, 8, 8]⟩ : ByteArray) (ji10)))))) else (none)) else (none)) = some r := by first | (rw [hji10] at H; exact H) | (simp only [hji10] at H ⊢; exact H)
     by_cases c11 : 0 ≤ (ji10)
     ·rw [if_pos c11] at H
      have c11b0 : decide (0 ≤ (ji10)) = true := decide_eq_true c11
      clear c11
      by_cases c12 : (ji10) < 256
      ·rw [if_pos c12] at H
       have c12b0 : decide ((ji10) < 256) = true := decide_eq_true c12
       clear c12
       obtain rfl := Option.some.inj H
       have p13 : 0 ≤ ((ji10) : Int) := of_decide_eq_true (by first | (with_reducible assumption) | assumption)
       have q13 : (ji10) < (256 : Int) := of_decide_eq_true (by first | (with_reducible assumption) | assumption)
       have hx13 := bt_at (⟨#[0, 1, 2, 2, 3, 3, 3, 3, 4, 4, 4, 4, 4, 4, 4, 4, 5, 5, 5, 5, 5, 5, 5, 5, 5, 5, 5, 5, 5, 5, 5, 5, 6, 6, 6, 6, 6, 6, 6, 6, 6, 6, 6, 6, 6, 6, 6, 6, 6, 6, 6, 6, 6, 6, 6, 6, 6, 6, 6, 6, 6, 6, 6, 6, 7, 7, 7, 7, 7, 7, 7, 7, 7, 7, 7, 7, 7, 7, 7, 7, 7, 7, 7, 7, 7, 7, 7, 7, 7, 7, 7, 7, 7, 7, 7, 7, 7, 7, 7, 7, 7, 7, 7, 7, 7, 7, 7, 7, 7, 7, 7, 7, 7, 7, 7, 7, 7, 7, 7, 7, 7, 7, 7, 7, 7, 7, 7, 7, 8, 8, 8, 8, 8, 8, 8, 8, 8, 8, 8, 8, 8, 8, 8, 8, 8, 8, 8, 8, 8, 8, 8, 8, 8, 8, 8, 8, 8, 8, 8, 8, 8, 8, 8, 8, 8, 8, 8, 8, 8, 8, 8, 8, 8, 8, 8, 8, 8, 8, 8, 8, 8, 8, 8, 8, 8, 8, 8, 8, 8, 8, 8, 8, 8, 8, 8, 8, 8, 8, 8, 8, 8, 8, 8, 8, 8, 8, 8, 8, 8, 8, 8, 8, 8, 8, 8, 8, 8, 8, 8, 8, 8, 8, 8, 8, 8, 8, 8, 8, 8, 8, 8, 8, 8, 8, 8, 8, 8, 8, 8, 8, 8, 8, 8, 8, 8, 8, 8, 8, 8, 8, 8, 8, 8, 8, 8, 8]⟩ : ByteArray) (ji10)
       replace p13 := eq_true p13
       replace q13 := eq_true q13
       go_wp2
       go_ret
       exact ⟨by first | rfl | (simp; done) | (simp only [← hji10] <;> (first | rfl | simp)) | (simp [*]; done), by repeat (first | exact Drawn0.refl _ | apply Drawn0.step)⟩
      ·rw [if_neg c12] at H
       exact absurd H (by simp)
     ·rw [if_neg c11] at H
      exact absurd H (by simp)
   ·rw [if_neg c4] at H
    have c4b0 : decide (65536 ≤ x0_1) = false := decide_eq_false c4
    clear c4
    by_cases c14 : x0_1 ≥ 256
    ·rw [if_pos c14] at H
     have c14b0 : decide (256 ≤ x0_1) = true := decide_eq_true c14
     clear c14
     obtain ⟨ji15, hji15⟩ : ∃ j_ : Int, ((x0_1 / 256) % 256) = j_ := ⟨_, rfl⟩
     replace H : (if 0 ≤ (ji15) then (if (ji15) < 256 then (some (wrap64 ((wrap64 (x2_1 + 8)) + (wrap64 (bt (⟨#[0, 1, 2, 2, 3, 3, 3, 3, 4, 4, 4, 4, 4, 4, 4, 4, 5, 5, 5, 5, 5, 5, 5, 5, 5, 5, 5, 5, 5, 5, 5, 5, 6, 6, 6, 6, 6, 6, 6, 6, 6, 6, 6, 6, 6, 6, 6, 6, 6, 6, 6, 6, 6, 6, 6, 6, 6, 6, 6, 6, 6, 6, 6, 6, 7, 7, 7, 7, 7, 7, 7, 7, 7, 7, 7, 7, 7, 7, 7, 7, 7, 7, 7, 7, 7, 7, 7, 7, 7, 7, 7, 7, 7, 7, 7, 7, 7, 7, 7, 7, 7, 7, 7, 7, 7, 7, 7, 7, 7, 7, 7, 7, 7, 7, 7, 7, 7, 7, 7, 7, 7, 7, 7, 7, 7, 7, 7, 7, 8, 8, 8, 8, 8, 8, 8, 8, 8, 8, 8, 8, 8, 8, 8, 8, 8, 8, 8, 8, 8, 8, 8, 8, 8, 8, 8, 8, 8, 8, 8, 8, 8, 8, 8, 8, 8, 8, 8, 8, 8, 8, 8, 8, 8, 8, 8, 8, 8, 8, 8, 8, 8, 8, 8, 8, 8, 8, 8, 8, 8, 8, 8, 8, 8, 8, 8, 8, 8, 8, 8, 8, 8, 8, 8, 8, 8, 8, 8, 8, 8, 8, 8, 8, 8, 8, 8, 8, 8, 8, 8, 8, 8, 8, 8, 8, 8, 8, 8, 8, 8, 8, 8, 8, 8, 8, 8, 8, 8, 8, 8, 8, 8, 8, 8, 8, 8, 8, 8, 8, 8, 8, 8, 8, 8, 8, 8, 8]⟩ : ByteArray) (ji15)))))) else (none)) else (none)) = some r := by first | (rw [hji15] at H; exact H) | (simp only [hji15] at H ⊢; exact H)
     by_cases c16 : 0 ≤ (ji15)
     ·rw [if_pos c16] at H
      have c16b0 : decide (0 ≤ (ji15)) = true := decide_eq_true c16
      clear c16
      by_cases c17 : (ji15) < 256
      ·rw [if_pos c17] at H
       have c17b0 : decide ((ji15) < 256) = true := decide_eq_true c17
       clear c17
       obtain rfl := Option.some.inj H
       have p18 : 0 ≤ ((ji15) : Int) := of_decide_eq_true (by first | (with_reducible assumption) | assumption)
       have q18 : (ji15) < (256 : Int) := of_decide_eq_true (by first | (with_reducible assumption) | assumption)
       have hx18 := bt_at (⟨#[0, 1, 2, 2, 3, 3, 3, 3, 4, 4, 4, 4, 4, 4, 4, 4, 5, 5, 5, 5, 5, 5, 5, 5, 5, 5, 5, 5, 5, 5, 5, 5, 6, 6, 6, 6, 6, 6, 6, 6, 6, 6, 6, 6, 6, 6, 6, 6, 6, 6, 6, 6, 6, 6, 6, 6, 6, 6, 6, 6, 6, 6, 6, 6, 7, 7, 7, 7, 7, 7, 7, 7, 7, 7, 7, 7, 7, 7, 7, 7, 7, 7, 7, 7, 7, 7, 7, 7, 7, 7, 7, 7, 7, 7, 7, 7, 7, 7, 7, 7, 7, 7, 7, 7, 7, 7, 7, 7, 7, 7, 7, 7, 7, 7, 7, 7, 7, 7, 7, 7, 7, 7, 7, 7, 7, 7, 7, 7, 8, 8, 8, 8, 8, 8, 8, 8, 8, 8, 8, 8, 8, 8, 8, 8, 8, 8, 8, 8, 8, 8, 8, 8, 8, 8, 8, 8, 8, 8, 8, 8, 8, 8, 8, 8, 8, 8, 8, 8, 8, 8, 8, 8, 8, 8, 8, 8, 8, 8, 8, 8, 8, 8, 8, 8, 8, 8, 8, 8, 8, 8, 8, 8, 8, 8, 8, 8, 8, 8, 8, 8, 8, 8, 8, 8, 8, 8, 8, 8, 8, 8, 8, 8, 8, 8, 8, 8, 8, 8, 8, 8, 8, 8, 8, 8, 8, 8, 8, 8, 8, 8, 8, 8, 8, 8, 8, 8, 8, 8, 8, 8, 8, 8, 8, 8, 8, 8, 8, 8, 8, 8, 8, 8, 8, 8, 8, 8]⟩ : ByteArray) (ji15)
       replace p18 := eq_true p18
       replace q18 := eq_true q18
       go_wp2
       go_ret
       exact ⟨by first | rfl | (simp; done) | (simp only [← hji15] <;> (first | rfl | simp)) | (simp [*]; done), by repeat (first | exact Drawn0.refl _ | apply Drawn0.step)⟩
      ·rw [if_neg c17] at H
       exact absurd H (by simp)
     ·rw [if_neg c16] at H
      exact absurd H (by simp)
    ·rw [if_neg c14] at H
     have c14b0 : decide (256 ≤ x0_1) = false := decide_eq_false c14
     clear c14
     obtain ⟨ji19, hji19⟩ : ∃ j_ : Int, ((x0_1) % 256) = j_ := ⟨_, rfl⟩
     replace H : (if 0 ≤ (ji19) then (if (ji19) < 256 then (some (wrap64 (x2_1 + (wrap64 (bt (⟨#[0, 1, 2, 2, 3, 3, 3, 3, 4, 4, 4, 4, 4, 4, 4, 4, 5, 5, 5, 5, 5, 5, 5, 5, 5, 5, 5, 5, 5, 5, 5, 5, 6, 6, 6, 6, 6, 6, 6, 6, 6, 6, 6, 6, 6, 6, 6, 6, 6, 6, 6, 6, 6, 6, 6, 6, 6, 6, 6, 6, 6, 6, 6, 6, 7, 7, 7, 7, 7, 7, 7, 7, 7, 7, 7, 7, 7, 7, 7, 7, 7, 7, 7, 7, 7, 7, 7, 7, 7, 7, 7, 7, 7, 7, 7, 7, 7, 7, 7, 7, 7, 7, 7, 7, 7, 7, 7, 7, 7, 7, 7, 7, 7, 7, 7, 7, 7, 7, 7, 7, 7, 7, 7, 7, 7, 7, 7, 7, 8, 8, 8, 8, 8, 8, 8, 8, 8, 8, 8, 8, 8, 8, 8, 8, 8, 8, 8, 8, 8, 8, 8, 8, 8, 8, 8, 8, 8, 8, 8, 8, 8, 8, 8, 8, 8, 8, 8, 8, 8, 8, 8, 8, 8, 8, 8, 8, 8, 8, 8, 8, 8, 8, 8, 8, 8, 8, 8, 8, 8, 8, 8, 8, 8, 8, 8, 8, 8, 8, 8, 8, 8, 8, 8, 8, 8, 8, 8, 8, 8, 8, 8, 8, 8, 8, 8, 8, 8, 8, 8, 8, 8, 8, 8, 8, 8, 8, 8, 8, 8, 8, 8, 8, 8, 8, 8, 8, 8, 8, 8, 8, 8, 8, 8, 8, 8, 8, 8, 8, 8, 8, 8, 8, 8, 8, 8, 8]⟩ : ByteArray) (ji19)))))) else (none)) else (none)) = some r := by first | (rw [hji19] at H; exact H) | (simp only [hji19] at H ⊢; exact H)
     by_cases c20 : 0 ≤ (ji19)
     ·rw [if_pos c20] at H
      have c20b0 : decide (0 ≤ (ji19)) = true := decide_eq_true c20
      clear c20
      by_cases c21 : (ji19) < 256
      ·rw [if_pos c21] at H
       have c21b0 : decide ((ji19) < 256) = true := decide_eq_true c21
       clear c21
       obtain rfl := Option.some.inj H
       have p22 : 0 ≤ ((ji19) : Int) := of_decide_eq_true (by first | (with_reducible assumption) | assumption)
       have q22 : (ji19) < (256 : Int) := of_decide_eq_true (by first | (with_reducible assumption) | assumption)
       have hx22 := bt_at (⟨#[0, 1, 2, 2, 3, 3, 3, 3, 4, 4, 4, 4, 4, 4, 4, 4, 5, 5, 5, 5, 5, 5, 5, 5, 5, 5, 5, 5, 5, 5, 5, 5, 6, 6, 6, 6, 6, 6, 6, 6, 6, 6, 6, 6, 6, 6, 6, 6, 6, 6, 6, 6, 6, 6, 6, 6, 6, 6, 6, 6, 6, 6, 6, 6, 7, 7, 7, 7, 7, 7, 7, 7, 7, 7, 7, 7, 7, 7, 7, 7, 7, 7, 7, 7, 7, 7, 7, 7, 7, 7, 7, 7, 7, 7, 7, 7, 7, 7, 7, 7, 7, 7, 7, 7, 7, 7, 7, 7, 7, 7, 7, 7, 7, 7, 7, 7, 7, 7, 7, 7, 7, 7, 7, 7, 7, 7, 7, 7, 8, 8, 8, 8, 8, 8, 8, 8, 8, 8, 8, 8, 8, 8, 8, 8, 8, 8, 8, 8, 8, 8, 8, 8, 8, 8, 8, 8, 8, 8, 8, 8, 8, 8, 8, 8, 8, 8, 8, 8, 8, 8, 8, 8, 8, 8, 8, 8, 8, 8, 8, 8, 8, 8, 8, 8, 8, 8, 8, 8, 8, 8, 8, 8, 8, 8, 8, 8, 8, 8, 8, 8, 8, 8, 8, 8, 8, 8, 8, 8, 8, 8, 8, 8, 8, 8, 8, 8, 8, 8, 8, 8, 8, 8, 8, 8, 8, 8, 8, 8, 8, 8, 8, 8, 8, 8, 8, 8, 8, 8, 8, 8, 8, 8, 8, 8, 8, 8, 8, 8, 8, 8, 8, 8, 8, 8, 8, 8]⟩ : ByteArray) (ji19)
       replace p22 := eq_true p22
       replace q22 := eq_true q22
       go_wp2
       go_ret
       exact ⟨by first | rfl | (simp; done) | (simp only [← hji19] <;> (first | rfl | simp)) | (simp [*]; done), by repeat (first | exact Drawn0.refl _ | apply Drawn0.step)⟩
      ·rw [if_neg c21] at H
       exact absurd H (by simp)
     ·rw [if_neg c20] at H
      exact absurd H (by simp)
/-! ### bits_Len: function 87 -/
def bits_Len.f (k : Nat) (a0 : Int) : Option (Int) := (bits_Len64.f k a0).bind fun t345 => (some t345)
theorem bits_Len.mono : ∀ a0 k, LeO (bits_Len.f k a0) (bits_Len.f (k + 1) a0) := by
 intro a0 k
 unfold bits_Len.f
 repeat' first
   | (with_reducible exact bits_Len64.mono _ _)
   | (with_reducible exact LeO.refl _)
   | (with_reducible exact LeO.none _)
   | (with_reducible refine LeO.ite ?_ ?_)
   | (with_reducible refine LeO.bind ?_ (fun _ => ?_))
   | exact bits_Len64.mono _ _
   | exact LeO.none _
   | refine LeO.ite ?_ ?_
   | refine LeO.bind ?_ (fun _ => ?_)
set_option maxHeartbeats 8000000 in
set_option maxRecDepth 100000 in
theorem bits_Len.calls (k : Nat) (a0 : Int) (r : Int) (w : World) (h : bits_Len.f k a0 = some r) :
  Calls Try.prog 87 #[.int .u64 a0] w fun e w' => e = .returned (.int .i64 r) ∧ Drawn0 w w' := by
 have H : ((bits_Len64.f k a0).bind fun t345 => (some t345)) = some r := h
 clear h
 replace H := Option.bind_eq_some_iff.mp H
 obtain ⟨t345, A20, H⟩ := H
 replace H : (some t345) = some r := H
 have A2 := Aside0.mk A20
 clear A20
 obtain rfl := Option.some.inj H
 go_enter Try.func87, Try.ntmps87
 go_wp2_with (first | ((with_reducible refine gate_callee (f := 106) rfl ?_); refine goesL_ (some 7) rfl rfl Try.func106 (by kernel_rfl) rfl #[.int .u64 a0] rfl (by (try simp only [List.map_toArray, List.map_cons, List.map_nil]); first | done | rfl | (simp only [List.length_drop, List.length_take]; rfl)) ?_; (with_reducible refine (bits_Len64.calls k a0 t345 _ A2.out).mono ?_); rintro e w' ⟨rfl, ⟨nd, rfl⟩⟩; refine ⟨_, rfl, ?_⟩))
 go_ret
 exact ⟨by first | rfl | (simp; done) | (simp [*]; done), by repeat (first | exact Drawn0.refl _ | apply Drawn0.step)⟩
/-! ### impl_Miller: function 40 -/
def impl_Miller.l0 : Nat → Int → Int → Int → Bool → Int → Int → Bool → Int → Int → Int → Int → Bool → Option (Int × Int)
 | 0, _, _, _, _, _, _, _, _, _, _, _, _ => none
 | k + 1, x7, x347000, x347001, x347002, x348000, x348001, x348002, x350000, x350001, x351000, x351001, x351002 => if x7 ≥ 0 then ((impl_TwoMul.f x350000 x350001 x350000 x350001).bind fun bt352 => ((impl_PairLine.f k x351000 x351001 x351002 x351000 x351001 x351002 x348000 x348001 x348002).bind fun bt354 => ((impl_TwoMul.f bt352.1 bt352.2 bt354.1 bt354.2).bind fun bt356 => ((impl_PointAdd.f k x351000 x351001 x351002 x351000 x351001 x351002).bind fun bt358 => (if 0 ≤ (IntKind.u64.wrap (x7)) then (if (Go.bits .and .i64 (shr .i64 1009 (IntKind.u64.wrap (x7))) 1) = 1 then ((impl_PairLine.f k bt358.1 bt358.2.1 bt358.2.2 x347000 x347001 x347002 x348000 x348001 x348002).bind fun bt361 => ((impl_TwoMul.f bt356.1 bt356.2 bt361.1 bt361.2).bind fun bt363 => ((impl_PointAdd.f k bt358.1 bt358.2.1 bt358.2.2 x347000 x347001 x347002).bind fun bt365 => (impl_Miller.l0 k (wrap64 (x7 - 1)) x347000 x347001 x347002 x348000 x348001 x348002 bt363.1 bt363.2 bt365.1 bt365.2.1 bt365.2.2)))) else (impl_Miller.l0 k (wrap64 (x7 - 1)) x347000 x347001 x347002 x348000 x348001 x348002 bt356.1 bt356.2 bt358.1 bt358.2.1 bt358.2.2)) else (none)))))) else (some (x350000, x350001))
def impl_Miller.f (k : Nat) (a0_0 : Int) (a0_1 : Int) (a0_2 : Bool) (a1_0 : Int) (a1_1 : Int) (a1_2 : Bool) : Option (Int × Int) := (bits_Len.f k 1009).bind fun t351 => (impl_Miller.l0 k (wrap64 (t351 - 2)) a0_0 a0_1 a0_2 a1_0 a1_1 a1_2 1 0 a0_0 a0_1 a0_2)
theorem impl_Miller.mono_l : ∀ k, (∀ y0 y1 y2 y3 y4 y5 y6 y7 y8 y9 y10 y11, LeO (impl_Miller.l0 k y0 y1 y2 y3 y4 y5 y6 y7 y8 y9 y10 y11) (impl_Miller.l0 (k + 1) y0 y1 y2 y3 y4 y5 y6 y7 y8 y9 y10 y11))
 | 0 => fun _ _ _ _ _ _ _ _ _ _ _ _ r h => by simp [impl_Miller.l0] at h
 | k + 1 => by
  have ih0 := impl_Miller.mono_l k
  ·intro y0 y1 y2 y3 y4 y5 y6 y7 y8 y9 y10 y11
   unfold impl_Miller.l0
   repeat' first
   | (with_reducible exact ih0 _ _ _ _ _ _ _ _ _ _ _ _)
   | (with_reducible exact bits_Len.mono _ _)
   | (with_reducible exact impl_PairLine.mono _ _ _ _ _ _ _ _ _ _)
   | (with_reducible exact impl_PointAdd.mono _ _ _ _ _ _ _)
   | (with_reducible exact LeO.refl _)
   | (with_reducible exact LeO.none _)
   | (with_reducible refine LeO.ite ?_ ?_)
   | (with_reducible refine LeO.bind ?_ (fun _ => ?_))
   | exact ih0 _ _ _ _ _ _ _ _ _ _ _ _
   | exact bits_Len.mono _ _
   | exact impl_PairLine.mono _ _ _ _ _ _ _ _ _ _
   | exact impl_PointAdd.mono _ _ _ _ _ _ _
   | exact LeO.none _
   | refine LeO.ite ?_ ?_
   | refine LeO.bind ?_ (fun _ => ?_)
theorem impl_Miller.mono : ∀ a0 a1 a2 a3 a4 a5 k, LeO (impl_Miller.f k a0 a1 a2 a3 a4 a5) (impl_Miller.f (k + 1) a0 a1 a2 a3 a4 a5) := by
 intro a0 a1 a2 a3 a4 a5 k
 have ih0 := impl_Miller.mono_l k
 unfold impl_Miller.f
 repeat' first
   | (with_reducible exact ih0 _ _ _ _ _ _ _ _ _ _ _ _)
   | (with_reducible exact bits_Len.mono _ _)
   | (with_reducible exact impl_PairLine.mono _ _ _ _ _ _ _ _ _ _)
   | (with_reducible exact impl_PointAdd.mono _ _ _ _ _ _ _)
   | (with_reducible exact LeO.refl _)
   | (with_reducible exact LeO.none _)
   | (with_reducible refine LeO.ite ?_ ?_)
   | (with_reducible refine LeO.bind ?_ (fun _ => ?_))
   | exact ih0 _ _ _ _ _ _ _ _ _ _ _ _
   | exact bits_Len.mono _ _
   | exact impl_PairLine.mono _ _ _ _ _ _ _ _ _ _
   | exact impl_PointAdd.mono _ _ _ _ _ _ _
   | exact LeO.none _
   | refine LeO.ite ?_ ?_
   | refine LeO.bind ?_ (fun _ => ?_)
def impl_Miller.T6 : Bool × List (List Nat × List Nat) := (true, [([], []), ([], []), ([0, 1], [0, 1]), ([], []), ([], []), ([], []), ([3, 4, 5, 2], [3, 4, 5]), ([2, 6, 6], [2, 6]), ([7, 7, 0, 1, 2, 3, 4, 5, 6, 7], [7])])
def impl_Miller.B6 : List Nat := [0, 0, 3, 0, 0, 0, 63, 127, 255]
theorem impl_Miller.tab6 : rtab .any (opsOf Try.f40 6) = impl_Miller.T6 := by kernel_rfl
theorem impl_Miller.bits6 : waitsOk impl_Miller.T6.2 impl_Miller.B6 = true := by kernel_rfl
set_option maxHeartbeats 8000000 in
set_option maxRecDepth 100000 in
theorem impl_Miller.calls (k : Nat) (a0_0 : Int) (a0_1 : Int) (a0_2 : Bool) (a1_0 : Int) (a1_1 : Int) (a1_2 : Bool) (r1 : Int) (r2 : Int) (w : World) (h : impl_Miller.f k a0_0 a0_1 a0_2 a1_0 a1_1 a1_2 = some (r1, r2)) :
  Calls Try.prog 40 #[.agg #[.int .i64 a0_0, .int .i64 a0_1, .bool a0_2], .agg #[.int .i64 a1_0, .int .i64 a1_1, .bool a1_2]] w fun e w' => e = .returned (.agg #[.int .i64 r1, .int .i64 r2]) ∧ Below w.heap.size w w' := by
 have hu25 := Try.underlying25
 have hu31 := Try.underlying31
 have HB := Aside0.mk (Below.refl w.heap.size w)
 have H : ((bits_Len.f k 1009).bind fun t351 => (impl_Miller.l0 k (wrap64 (t351 - 2)) a0_0 a0_1 a0_2 a1_0 a1_1 a1_2 1 0 a0_0 a0_1 a0_2)) = some (r1, r2) := h
 clear h
 replace H := Option.bind_eq_some_iff.mp H
 obtain ⟨t351, A30, H⟩ := H
 replace H : (impl_Miller.l0 k (wrap64 (t351 - 2)) a0_0 a0_1 a0_2 a1_0 a1_1 a1_2 1 0 a0_0 a0_1 a0_2) = some (r1, r2) := H
 have A3 := Aside0.mk A30
 clear A30
 have H' := Aside0.mk H
 clear H
 go_enter Try.func40, Try.ntmps40
 go_wp2_with (first | ((with_reducible refine gate_dst (N := 2) rfl ?_); refine box_event ?hg (N := 2) ?hd (cs := #[.int .i64 a0_0, .int .i64 a0_1, .bool a0_2]) (t := 25) ?hr ?_; (case hd => rfl); (case hg => rfl); (case hr => first | (go_simp; done) | (go_simp; rfl)); intro gb346 hg w4 hbox hb; have BK346 := Aside0.mk (hbox); have GW346 := bG HB hg; have GE346 := bG HB hg; replace HB := bS HB hb; clear hb hbox hg) | ((with_reducible refine gate_dst (N := 3) rfl ?_); refine box_event ?hg (N := 3) ?hd (cs := #[.int .i64 a1_0, .int .i64 a1_1, .bool a1_2]) (t := 25) ?hr ?_; (case hd => rfl); (case hg => rfl); (case hr => first | (go_simp; done) | (go_simp; rfl)); intro gb347 hg w5 hbox hb; have BK347 := Aside0.mk (hbox); have GW347 := bG HB hg; have GE347 := bG HB hg; replace HB := bS HB hb; have NB346_347 := bL BK346 hg; have NB347_346 := bR BK346 hg; replace BK346 := bB BK346 hb; clear hb hbox hg) | ((with_reducible refine gate_dst (N := 4) rfl ?_); refine box_event ?hg (N := 4) ?hd (cs := #[.int .i64 0, .int .i64 0]) (t := 31) ?hr ?_; (case hd => rfl); (case hg => rfl); (case hr => first | (go_simp; done) | (go_simp; rfl)); intro gb348 hg w6 hbox hb; have BK348 := Aside0.mk (hbox); have GW348 := bG HB hg; have GE348 := bG HB hg; replace HB := bS HB hb; have NB346_348 := bL BK346 hg; have NB348_346 := bR BK346 hg; replace BK346 := bB BK346 hb; have NB347_348 := bL BK347 hg; have NB348_347 := bR BK347 hg; replace BK347 := bB BK347 hb; clear hb hbox hg) | ((with_reducible refine gate_dst (N := 5) rfl ?_); refine box_event ?hg (N := 5) ?hd (cs := #[.int .i64 0, .int .i64 0]) (t := 31) ?hr ?_; (case hd => rfl); (case hg => rfl); (case hr => first | (go_simp; done) | (go_simp; rfl)); intro gb349 hg w7 hbox hb; have BK349 := Aside0.mk (hbox); have GW349 := bG HB hg; have GE349 := bG HB hg; replace HB := bS HB hb; have NB346_349 := bL BK346 hg; have NB349_346 := bR BK346 hg; replace BK346 := bB BK346 hb; have NB347_349 := bL BK347 hg; have NB349_347 := bR BK347 hg; replace BK347 := bB BK347 hb; have NB348_349 := bL BK348 hg; have NB349_348 := bR BK348 hg; replace BK348 := bB BK348 hb; clear hb hbox hg; have hnb8 := NB349_346.out; have hnc8 := NB346_349.out; have hnb9 := NB349_347.out; have hnc9 := NB347_349.out; have hnb10 := NB349_348.out; have hnc10 := NB348_349.out; have hcz11_0 : w7.cell? ⟨gb349, 0, none⟩ = some (.int .i64 0) := bc BK349 0; have hcz11_1 : w7.cell? ⟨gb349, 1, none⟩ = some (.int .i64 0) := bc BK349 1; have hfz11_0 := blk_frozen BK349.out 0; have hfz11_1 := blk_frozen BK349.out 1; have hnb12 := NB346_347.out; have hnc12 := NB347_346.out; have hnb13 := NB346_348.out; have hnc13 := NB348_346.out; have hcz14_0 : w7.cell? ⟨gb346, 0, none⟩ = some (.int .i64 a0_0) := bc BK346 0; have hcz14_1 : w7.cell? ⟨gb346, 1, none⟩ = some (.int .i64 a0_1) := bc BK346 1; have hcz14_2 : w7.cell? ⟨gb346, 2, none⟩ = some (.bool a0_2) := bc BK346 2; have hfz14_0 := blk_frozen BK346.out 0; have hfz14_1 := blk_frozen BK346.out 1; have hfz14_2 := blk_frozen BK346.out 2) | ((with_reducible refine gate_dst (N := 6) rfl ?_); refine box_event ?hg (N := 6) ?hd (cs := #[.int .i64 0, .int .i64 0, .bool false]) (t := 25) ?hr ?_; (case hd => rfl); (case hg => rfl); (case hr => first | (go_simp; done) | (go_simp; rfl)); intro gb350 hg w15 hbox hb; have BK350 := Aside0.mk (hbox); have GW350 := bG HB hg; have GE350 := bG HB hg; replace HB := bS HB hb; have NB346_350 := bL BK346 hg; have NB350_346 := bR BK346 hg; replace BK346 := bB BK346 hb; have NB347_350 := bL BK347 hg; have NB350_347 := bR BK347 hg; replace BK347 := bB BK347 hb; have NB348_350 := bL BK348 hg; have NB350_348 := bR BK348 hg; replace BK348 := bB BK348 hb; have NB349_350 := Aside0.mk ((by rw [hg]; exact Nat.ne_of_lt (blk_lt (g := gb349) (o := .cells #[.int .i64 1, .int .i64 0] 31 (0, 0)) (by (with_reducible repeat (first | refine blk_drewN ?_ _ | refine blk_drew ?_ | refine blk_alloc ?_ _)); refine blk_put (cs := #[.int .i64 1, .int .i64 0]) ?_ 1 _ rfl; (with_reducible repeat (first | refine blk_drewN ?_ _ | refine blk_drew ?_ | refine blk_alloc ?_ _)); refine blk_put (cs := #[.int .i64 0, .int .i64 0]) ?_ 0 _ rfl; (with_reducible repeat (first | refine blk_drewN ?_ _ | refine blk_drew ?_ | refine blk_alloc ?_ _)); exact BK349.out)) : gb349 ≠ gb350)); have NB350_349 := Aside0.mk ((by rw [hg]; exact Nat.ne_of_gt (blk_lt (g := gb349) (o := .cells #[.int .i64 1, .int .i64 0] 31 (0, 0)) (by (with_reducible repeat (first | refine blk_drewN ?_ _ | refine blk_drew ?_ | refine blk_alloc ?_ _)); refine blk_put (cs := #[.int .i64 1, .int .i64 0]) ?_ 1 _ rfl; (with_reducible repeat (first | refine blk_drewN ?_ _ | refine blk_drew ?_ | refine blk_alloc ?_ _)); refine blk_put (cs := #[.int .i64 0, .int .i64 0]) ?_ 0 _ rfl; (with_reducible repeat (first | refine blk_drewN ?_ _ | refine blk_drew ?_ | refine blk_alloc ?_ _)); exact BK349.out)) : gb350 ≠ gb349)); replace BK349 := Aside0.mk (blk_below (g := gb349) (o := .cells #[.int .i64 1, .int .i64 0] 31 (0, 0)) (by (with_reducible repeat (first | refine blk_drewN ?_ _ | refine blk_drew ?_ | refine blk_alloc ?_ _)); refine blk_put (cs := #[.int .i64 1, .int .i64 0]) ?_ 1 _ rfl; (with_reducible repeat (first | refine blk_drewN ?_ _ | refine blk_drew ?_ | refine blk_alloc ?_ _)); refine blk_put (cs := #[.int .i64 0, .int .i64 0]) ?_ 0 _ rfl; (with_reducible repeat (first | refine blk_drewN ?_ _ | refine blk_drew ?_ | refine blk_alloc ?_ _)); exact BK349.out) hb); clear hb hbox hg; have hnb16 := NB350_346.out; have hnc16 := NB346_350.out; have hnb17 := NB350_347.out; have hnc17 := NB347_350.out; have hnb18 := NB350_348.out; have hnc18 := NB348_350.out; have hnb19 := NB350_349.out; have hnc19 := NB349_350.out; have hcz20_0 : w15.cell? ⟨gb350, 0, none⟩ = some (.int .i64 0) := bc BK350 0; have hcz20_1 : w15.cell? ⟨gb350, 1, none⟩ = some (.int .i64 0) := bc BK350 1; have hcz20_2 : w15.cell? ⟨gb350, 2, none⟩ = some (.bool false) := bc BK350 2; have hfz20_0 := blk_frozen BK350.out 0; have hfz20_1 := blk_frozen BK350.out 1; have hfz20_2 := blk_frozen BK350.out 2) | ((with_reducible refine gate_callee (f := 87) rfl ?_); refine goesL_ (some 10) rfl rfl Try.func87 (by kernel_rfl) rfl #[.int .u64 1009] rfl (by (try simp only [List.map_toArray, List.map_cons, List.map_nil]); first | done | rfl | (simp only [List.length_drop, List.length_take]; rfl)) ?_; (with_reducible refine (bits_Len.calls k 1009 t351 _ A3.out).mono ?_); rintro e w' ⟨rfl, ⟨nd, rfl⟩⟩; refine ⟨_, rfl, ?_⟩))
 go_loopg [7] k (fun kq v7 w' => ∃ (x7_1 : Int) (x350000_1 : Int) (x350001_1 : Int) (x351000_1 : Int) (x351001_1 : Int) (x351002_1 : Bool), v7 = .int .i64 x7_1 ∧ Aside0 (impl_Miller.l0 kq x7_1 a0_0 a0_1 a0_2 a1_0 a1_1 a1_2 x350000_1 x350001_1 x351000_1 x351001_1 x351002_1 = some (r1, r2)) ∧ Aside0 (kq ≤ k) ∧ Aside0 (w'.heap[gb346]? = some (.cells #[.int .i64 a0_0, .int .i64 a0_1, .bool a0_2] 25 (0, 0))) ∧ Aside0 (w'.heap[gb347]? = some (.cells #[.int .i64 a1_0, .int .i64 a1_1, .bool a1_2] 25 (0, 0))) ∧ Aside0 (w'.heap[gb348]? = some (.cells #[.int .i64 0, .int .i64 0] 31 (0, 0))) ∧ Aside0 (w'.heap[gb349]? = some (.cells #[.int .i64 x350000_1, .int .i64 x350001_1] 31 (0, 0))) ∧ Aside0 (w'.heap[gb350]? = some (.cells #[.int .i64 x351000_1, .int .i64 x351001_1, .bool x351002_1] 25 (0, 0))) ∧ Aside0 (Below w.heap.size w w'))
 case atStart => exact ⟨(wrap64 (t351 - 2)), (1), (0), (a0_0), (a0_1), (a0_2), (by first | rfl | (simp; done) | (simp [*]; done)), H', ⟨Nat.le_refl _⟩, ⟨bP BK346⟩, ⟨bP BK347⟩, ⟨bP BK348⟩, ⟨bP BK349⟩, ⟨by (with_reducible repeat (first | refine blk_drewN ?_ _ | refine blk_drew ?_ | refine blk_alloc ?_ _)); refine blk_put (cs := #[.int .i64 a0_0, .int .i64 a0_1, .bool false]) ?_ 2 _ rfl; (with_reducible repeat (first | refine blk_drewN ?_ _ | refine blk_drew ?_ | refine blk_alloc ?_ _)); refine blk_put (cs := #[.int .i64 a0_0, .int .i64 0, .bool false]) ?_ 1 _ rfl; (with_reducible repeat (first | refine blk_drewN ?_ _ | refine blk_drew ?_ | refine blk_alloc ?_ _)); refine blk_put (cs := #[.int .i64 0, .int .i64 0, .bool false]) ?_ 0 _ rfl; (with_reducible repeat (first | refine blk_drewN ?_ _ | refine blk_drew ?_ | refine blk_alloc ?_ _)); exact BK350.out⟩, ⟨bZ HB⟩⟩
 case round =>
  clear H'
  try clear c1
  try clear p2
  try clear c4
  try clear p6
  try clear c8
  try clear c9
  try clear c10
  try clear c12
  try clear c13
  try clear c16
  try clear c17
  try clear c18
  try clear c19
  try clear hcz11_0
  try clear hcz11_1
  try clear hcz14_0
  try clear hcz14_1
  try clear hcz14_2
  try clear hcz20_0
  try clear hcz20_1
  try clear hcz20_2
  try clear hfz11_0
  try clear hfz11_1
  try clear hfz14_0
  try clear hfz14_1
  try clear hfz14_2
  try clear hfz20_0
  try clear hfz20_1
  try clear hfz20_2
  obtain ⟨x7_1, x350000_1, x350001_1, x351000_1, x351001_1, x351002_1, rfl, HA, HK1, BK346, BK347, BK348, BK349, BK350, HB⟩ := hrel
  cases gk with
  | zero => exact absurd HA.out (by simp [impl_Miller.l0])
  | succ k1 =>
   have H := HA.out
   clear HA
   simp only [impl_Miller.l0] at H
   by_cases c21 : x7_1 ≥ 0
   ·rw [if_pos c21] at H
    have c21b0 : decide (0 ≤ x7_1) = true := decide_eq_true c21
    clear c21
    replace H := Option.bind_eq_some_iff.mp H
    obtain ⟨⟨t352, t353⟩, A220, H⟩ := H
    replace H : ((impl_PairLine.f k1 x351000_1 x351001_1 x351002_1 x351000_1 x351001_1 x351002_1 a1_0 a1_1 a1_2).bind fun bt354 => ((impl_TwoMul.f t352 t353 bt354.1 bt354.2).bind fun bt356 => ((impl_PointAdd.f k1 x351000_1 x351001_1 x351002_1 x351000_1 x351001_1 x351002_1).bind fun bt358 => (if 0 ≤ (IntKind.u64.wrap (x7_1)) then (if (Go.bits .and .i64 (shr .i64 1009 (IntKind.u64.wrap (x7_1))) 1) = 1 then ((impl_PairLine.f k1 bt358.1 bt358.2.1 bt358.2.2 a0_0 a0_1 a0_2 a1_0 a1_1 a1_2).bind fun bt361 => ((impl_TwoMul.f bt356.1 bt356.2 bt361.1 bt361.2).bind fun bt363 => ((impl_PointAdd.f k1 bt358.1 bt358.2.1 bt358.2.2 a0_0 a0_1 a0_2).bind fun bt365 => (impl_Miller.l0 k1 (wrap64 (x7_1 - 1)) a0_0 a0_1 a0_2 a1_0 a1_1 a1_2 bt363.1 bt363.2 bt365.1 bt365.2.1 bt365.2.2)))) else (impl_Miller.l0 k1 (wrap64 (x7_1 - 1)) a0_0 a0_1 a0_2 a1_0 a1_1 a1_2 bt356.1 bt356.2 bt358.1 bt358.2.1 bt358.2.2)) else (none))))) = some (r1, r2) := H
    have A22 := Aside0.mk A220
    clear A220
    replace H := Option.bind_eq_some_iff.mp H
    obtain ⟨⟨t354, t355⟩, A230, H⟩ := H
    replace H : ((impl_TwoMul.f t352 t353 t354 t355).bind fun bt356 => ((impl_PointAdd.f k1 x351000_1 x351001_1 x351002_1 x351000_1 x351001_1 x351002_1).bind fun bt358 => (if 0 ≤ (IntKind.u64.wrap (x7_1)) then (if (Go.bits .and .i64 (shr .i64 1009 (IntKind.u64.wrap (x7_1))) 1) = 1 then ((impl_PairLine.f k1 bt358.1 bt358.2.1 bt358.2.2 a0_0 a0_1 a0_2 a1_0 a1_1 a1_2).bind fun bt361 => ((impl_TwoMul.f bt356.1 bt356.2 bt361.1 bt361.2).bind fun bt363 => ((impl_PointAdd.f k1 bt358.1 bt358.2.1 bt358.2.2 a0_0 a0_1 a0_2).bind fun bt365 => (impl_Miller.l0 k1 (wrap64 (x7_1 - 1)) a0_0 a0_1 a0_2 a1_0 a1_1 a1_2 bt363.1 bt363.2 bt365.1 bt365.2.1 bt365.2.2)))) else (impl_Miller.l0 k1 (wrap64 (x7_1 - 1)) a0_0 a0_1 a0_2 a1_0 a1_1 a1_2 bt356.1 bt356.2 bt358.1 bt358.2.1 bt358.2.2)) else (none)))) = some (r1, r2) := H
    have A23 := Aside0.mk A230
    clear A230
    replace H := Option.bind_eq_some_iff.mp H
    obtain ⟨⟨t356, t357⟩, A240, H⟩ := H
    replace H : ((impl_PointAdd.f k1 x351000_1 x351001_1 x351002_1 x351000_1 x351001_1 x351002_1).bind fun bt358 => (if 0 ≤ (IntKind.u64.wrap (x7_1)) then (if (Go.bits .and .i64 (shr .i64 1009 (IntKind.u64.wrap (x7_1))) 1) = 1 then ((impl_PairLine.f k1 bt358.1 bt358.2.1 bt358.2.2 a0_0 a0_1 a0_2 a1_0 a1_1 a1_2).bind fun bt361 => ((impl_TwoMul.f t356 t357 bt361.1 bt361.2).bind fun bt363 => ((impl_PointAdd.f k1 bt358.1 bt358.2.1 bt358.2.2 a0_0 a0_1 a0_2).bind fun bt365 => (impl_Miller.l0 k1 (wrap64 (x7_1 - 1)) a0_0 a0_1 a0_2 a1_0 a1_1 a1_2 bt363.1 bt363.2 bt365.1 bt365.2.1 bt365.2.2)))) else (impl_Miller.l0 k1 (wrap64 (x7_1 - 1)) a0_0 a0_1 a0_2 a1_0 a1_1 a1_2 t356 t357 bt358.1 bt358.2.1 bt358.2.2)) else (none))) = some (r1, r2) := H
    have A24 := Aside0.mk A240
    clear A240
    replace H := Option.bind_eq_some_iff.mp H
    obtain ⟨⟨t358, t359, t360⟩, A250, H⟩ := H
    replace H : (if 0 ≤ (IntKind.u64.wrap (x7_1)) then (if (Go.bits .and .i64 (shr .i64 1009 (IntKind.u64.wrap (x7_1))) 1) = 1 then ((impl_PairLine.f k1 t358 t359 t360 a0_0 a0_1 a0_2 a1_0 a1_1 a1_2).bind fun bt361 => ((impl_TwoMul.f t356 t357 bt361.1 bt361.2).bind fun bt363 => ((impl_PointAdd.f k1 t358 t359 t360 a0_0 a0_1 a0_2).bind fun bt365 => (impl_Miller.l0 k1 (wrap64 (x7_1 - 1)) a0_0 a0_1 a0_2 a1_0 a1_1 a1_2 bt363.1 bt363.2 bt365.1 bt365.2.1 bt365.2.2)))) else (impl_Miller.l0 k1 (wrap64 (x7_1 - 1)) a0_0 a0_1 a0_2 a1_0 a1_1 a1_2 t356 t357 t358 t359 t360)) else (none)) = some (r1, r2) := H
    have A25 := Aside0.mk A250
    clear A250
    obtain ⟨ji26, hji26⟩ : ∃ j_ : Int, (IntKind.u64.wrap (x7_1)) = j_ := ⟨_, rfl⟩
    replace H : (if 0 ≤ (ji26) then (if (Go.bits .and .i64 (shr .i64 1009 (ji26)) 1) = 1 then ((impl_PairLine.f k1 t358 t359 t360 a0_0 a0_1 a0_2 a1_0 a1_1 a1_2).bind fun bt361 => ((impl_TwoMul.f t356 t357 bt361.1 bt361.2).bind fun bt363 => ((impl_PointAdd.f k1 t358 t359 t360 a0_0 a0_1 a0_2).bind fun bt365 => (impl_Miller.l0 k1 (wrap64 (x7_1 - 1)) a0_0 a0_1 a0_2 a1_0 a1_1 a1_2 bt363.1 bt363.2 bt365.1 bt365.2.1 bt365.2.2)))) else (impl_Miller.l0 k1 (wrap64 (x7_1 - 1)) a0_0 a0_1 a0_2 a1_0 a1_1 a1_2 t356 t357 t358 t359 t360)) else (none)) = some (r1, r2) := by first | (rw [hji26] at H; exact H) | (simp only [hji26] at H ⊢; exact H)
    (try rw [hji26] at A22)
    (try rw [hji26] at A23)
    (try rw [hji26] at A24)
    (try rw [hji26] at A25)
    by_cases c27 : 0 ≤ (ji26)
    ·rw [if_pos c27] at H
     have c27b0 := eq_true c27
     have c27b1 : decide (0 ≤ (ji26)) = true := decide_eq_true c27
     clear c27
     obtain ⟨ji28, hji28⟩ : ∃ j_ : Int, (shr .i64 1009 (ji26)) = j_ := ⟨_, rfl⟩
     replace H : (if (Go.bits .and .i64 (ji28) 1) = 1 then ((impl_PairLine.f k1 t358 t359 t360 a0_0 a0_1 a0_2 a1_0 a1_1 a1_2).bind fun bt361 => ((impl_TwoMul.f t356 t357 bt361.1 bt361.2).bind fun bt363 => ((impl_PointAdd.f k1 t358 t359 t360 a0_0 a0_1 a0_2).bind fun bt365 => (impl_Miller.l0 k1 (wrap64 (x7_1 - 1)) a0_0 a0_1 a0_2 a1_0 a1_1 a1_2 bt363.1 bt363.2 bt365.1 bt365.2.1 bt365.2.2)))) else (impl_Miller.l0 k1 (wrap64 (x7_1 - 1)) a0_0 a0_1 a0_2 a1_0 a1_1 a1_2 t356 t357 t358 t359 t360)) = some (r1, r2) := by first | (rw [hji28] at H; exact H) | (simp only [hji28] at H ⊢; exact H)
     (try rw [hji28] at A22)
     (try rw [hji28] at A23)
     (try rw [hji28] at A24)
     (try rw [hji28] at A25)
     have hji28_ : (1009 / 2 ^ min (ji26).toNat 64) = ji28 := hji28
     have hji28z : (ji26) ≤ 64 → (1009 / 2 ^ (ji26).toNat) = ji28 := shr_small hji28
     have hji28t : ∀ m_ : Int, Int.tmod ji28 m_ = ji28 % m_ := fun m_ => Int.tmod_eq_emod_of_nonneg (by rw [← hji28_]; exact Int.ediv_nonneg (by decide) (Int.le_of_lt (Int.pow_pos (by decide))))
     by_cases c29 : (Go.bits .and .i64 (ji28) 1) = 1
     ·rw [if_pos c29] at H
      have c29b0 : ((Go.bits .and .i64 (ji28) 1) == 1) = true := beq_iff_eq.mpr c29
      have c29b1 : ((Go.bits .and .i64 (ji28) 1) != 1) = false := bne_eq_false_iff_eq.mpr c29
      clear c29
      replace H := Option.bind_eq_some_iff.mp H
      obtain ⟨⟨t361, t362⟩, A300, H⟩ := H
      replace H : ((impl_TwoMul.f t356 t357 t361 t362).bind fun bt363 => ((impl_PointAdd.f k1 t358 t359 t360 a0_0 a0_1 a0_2).bind fun bt365 => (impl_Miller.l0 k1 (wrap64 (x7_1 - 1)) a0_0 a0_1 a0_2 a1_0 a1_1 a1_2 bt363.1 bt363.2 bt365.1 bt365.2.1 bt365.2.2))) = some (r1, r2) := H
      have A30 := Aside0.mk A300
      clear A300
      replace H := Option.bind_eq_some_iff.mp H
      obtain ⟨⟨t363, t364⟩, A310, H⟩ := H
      replace H : ((impl_PointAdd.f k1 t358 t359 t360 a0_0 a0_1 a0_2).bind fun bt365 => (impl_Miller.l0 k1 (wrap64 (x7_1 - 1)) a0_0 a0_1 a0_2 a1_0 a1_1 a1_2 t363 t364 bt365.1 bt365.2.1 bt365.2.2)) = some (r1, r2) := H
      have A31 := Aside0.mk A310
      clear A310
      replace H := Option.bind_eq_some_iff.mp H
      obtain ⟨⟨t365, t366, t367⟩, A320, H⟩ := H
      replace H : (impl_Miller.l0 k1 (wrap64 (x7_1 - 1)) a0_0 a0_1 a0_2 a1_0 a1_1 a1_2 t363 t364 t365 t366 t367) = some (r1, r2) := H
      have A32 := Aside0.mk A320
      clear A320
      have H' := Aside0.mk H
      clear H
      try go_wp2
      replace BK346 := Aside0.mk (blk_drew BK346.out)
      replace BK347 := Aside0.mk (blk_drew BK347.out)
      replace BK348 := Aside0.mk (blk_drew BK348.out)
      replace BK349 := Aside0.mk (blk_drew BK349.out)
      replace BK350 := Aside0.mk (blk_drew BK350.out)
      replace HB := Aside0.mk (below_drew1 HB.out)
      refine start_ (n := 9) (S := fun w' => w'.cell? ⟨gb349, 0, none⟩ = some (.int .i64 x350000_1) ∧ w'.cell? ⟨gb349, 1, none⟩ = some (.int .i64 x350001_1) ∧ w'.cell? ⟨gb350, 0, none⟩ = some (.int .i64 x351000_1) ∧ w'.cell? ⟨gb350, 1, none⟩ = some (.int .i64 x351001_1) ∧ w'.cell? ⟨gb350, 2, none⟩ = some (.bool x351002_1) ∧ w'.cell? ⟨gb347, 0, none⟩ = some (.int .i64 a1_0) ∧ w'.cell? ⟨gb347, 1, none⟩ = some (.int .i64 a1_1) ∧ w'.cell? ⟨gb347, 2, none⟩ = some (.bool a1_2)) (ds := [8]) #[false, false, false, false, false, false, false, false, false] (by kernel_rfl) rfl rfl ⟨bc BK349 0, bc BK349 1, bc BK350 0, bc BK350 1, bc BK350 2, bc BK347 0, bc BK347 1, bc BK347 2⟩ (fun hHeld => ?_); refine with_tabW impl_Miller.tab6 impl_Miller.bits6 (fun HT_ HW_ => ?_)
      generalize wr.drew = w33 at BK346 BK347 BK348 BK349 BK350 HB hHeld ⊢
      refine take_ (i := 0) (N := some 16) (v := ?_) (a' := ?_) #[true, false, false, false, false, false, false, false, false] rfl rfl (take_ofW HT_.out HW_.out (by kernel_rfl)) (fun _ _ _ h => h) (Or.inl ⟨by rfl, ?_⟩) hHeld ?_ ?_
      rotate_left
      ·rintro w' ⟨s0, s1, s2, s3, s4, s5, s6, s7⟩
       go_simp
       with_reducible rfl
      rotate_left
      ·simp only [Act.put, List.setIfInBounds_toArray, List.set_cons_zero, List.set_cons_succ, i64_w, i32_w]
       rfl
      refine take_ (i := 1) (N := some 17) (v := ?_) (a' := ?_) #[true, true, false, false, false, false, false, false, false] rfl rfl (take_ofW HT_.out HW_.out (by kernel_rfl)) (fun _ _ _ h => h) (Or.inl ⟨by rfl, ?_⟩) hHeld ?_ ?_
      rotate_left
      ·rintro w' ⟨s0, s1, s2, s3, s4, s5, s6, s7⟩
       go_simp
       with_reducible rfl
      rotate_left
      ·simp only [Act.put, List.setIfInBounds_toArray, List.set_cons_zero, List.set_cons_succ, i64_w, i32_w]
       rfl
      refine take_ (i := 3) (N := some 19) (v := ?_) (a' := ?_) #[true, true, false, true, false, false, false, false, false] rfl rfl (take_ofW HT_.out HW_.out (by kernel_rfl)) (fun _ _ _ h => h) (Or.inl ⟨by rfl, ?_⟩) hHeld ?_ ?_
      rotate_left
      ·rintro w' ⟨s0, s1, s2, s3, s4, s5, s6, s7⟩
       go_simp
       with_reducible rfl
      rotate_left
      ·simp only [Act.put, List.setIfInBounds_toArray, List.set_cons_zero, List.set_cons_succ, i64_w, i32_w]
       rfl
      refine take_ (i := 4) (N := some 20) (v := ?_) (a' := ?_) #[true, true, false, true, true, false, false, false, false] rfl rfl (take_ofW HT_.out HW_.out (by kernel_rfl)) (fun _ _ _ h => h) (Or.inl ⟨by rfl, ?_⟩) hHeld ?_ ?_
      rotate_left
      ·rintro w' ⟨s0, s1, s2, s3, s4, s5, s6, s7⟩
       go_simp
       with_reducible rfl
      rotate_left
      ·simp only [Act.put, List.setIfInBounds_toArray, List.set_cons_zero, List.set_cons_succ, i64_w, i32_w]
       rfl
      refine take_ (i := 5) (N := some 21) (v := ?_) (a' := ?_) #[true, true, false, true, true, true, false, false, false] rfl rfl (take_ofW HT_.out HW_.out (by kernel_rfl)) (fun _ _ _ h => h) (Or.inl ⟨by rfl, ?_⟩) hHeld ?_ ?_
      rotate_left
      ·rintro w' ⟨s0, s1, s2, s3, s4, s5, s6, s7⟩
       go_simp
       with_reducible rfl
      rotate_left
      ·simp only [Act.put, List.setIfInBounds_toArray, List.set_cons_zero, List.set_cons_succ, i64_w, i32_w]
       rfl
      refine one_ (i := 2) (N := some 18) #[true, true, true, true, true, true, false, false, false] rfl rfl (one_of HT_.out (by kernel_rfl)) (by decide) (fun K hK => ?_)
      refine goes_ Try.func21 (by kernel_rfl) rfl #[.agg #[.int .i64 x350000_1, .int .i64 x350001_1], .agg #[.int .i64 x350000_1, .int .i64 x350001_1]] (by rfl) rfl rfl (by (try simp only [List.map_toArray, List.map_cons, List.map_nil]); first | done | rfl | (simp only [List.length_drop, List.length_take]; rfl)) ?_
      with_reducible refine (impl_TwoMul.calls x350000_1 x350001_1 x350000_1 x350001_1 t352 t353 _ A22.out).mono ?_
      rintro e w34 ⟨rfl, hb⟩
      refine ⟨_, rfl, ?_⟩
      replace BK346 := bB BK346 hb
      replace BK347 := bB BK347 hb
      replace BK348 := bB BK348 hb
      replace BK349 := bB BK349 hb
      replace BK350 := bB BK350 hb
      replace HB := bS HB hb
      (try clear hb)
      (try clear hb2)
      (try clear hk)
      (try clear hi)
      refine hK.out _ _ ⟨bc BK349 0, bc BK349 1, bc BK350 0, bc BK350 1, bc BK350 2, bc BK347 0, bc BK347 1, bc BK347 2⟩ (fun hHeld => ?_)
      clear hK K
      refine norm_ (a' := ?_) ?_ ?_
      rotate_left
      ·show Act.put _ (some 18) _ = _
       simp only [Act.put, List.setIfInBounds_toArray, List.set_cons_zero, List.set_cons_succ, i64_w, i32_w]
       rfl
      refine one_ (i := 6) (N := some 22) #[true, true, true, true, true, true, true, false, false] rfl rfl (one_of HT_.out (by kernel_rfl)) (by decide) (fun K hK => ?_)
      refine goes_ Try.func25 (by kernel_rfl) rfl #[.agg #[.int .i64 x351000_1, .int .i64 x351001_1, .bool x351002_1], .agg #[.int .i64 x351000_1, .int .i64 x351001_1, .bool x351002_1], .agg #[.int .i64 a1_0, .int .i64 a1_1, .bool a1_2]] (by rfl) rfl rfl (by (try simp only [List.map_toArray, List.map_cons, List.map_nil]); first | done | rfl | (simp only [List.length_drop, List.length_take]; rfl)) ?_
      with_reducible refine (impl_PairLine.calls k1 x351000_1 x351001_1 x351002_1 x351000_1 x351001_1 x351002_1 a1_0 a1_1 a1_2 t354 t355 _ A23.out).mono ?_
      rintro e w35 ⟨rfl, hb⟩
      refine ⟨_, rfl, ?_⟩
      replace BK346 := bB BK346 hb
      replace BK347 := bB BK347 hb
      replace BK348 := bB BK348 hb
      replace BK349 := bB BK349 hb
      replace BK350 := bB BK350 hb
      replace HB := bS HB hb
      (try clear hb)
      (try clear hb2)
      (try clear hk)
      (try clear hi)
      refine hK.out _ _ ⟨bc BK349 0, bc BK349 1, bc BK350 0, bc BK350 1, bc BK350 2, bc BK347 0, bc BK347 1, bc BK347 2⟩ (fun hHeld => ?_)
      clear hK K
      refine norm_ (a' := ?_) ?_ ?_
      rotate_left
      ·show Act.put _ (some 22) _ = _
       simp only [Act.put, List.setIfInBounds_toArray, List.set_cons_zero, List.set_cons_succ, i64_w, i32_w]
       rfl
      refine one_ (i := 7) (N := some 23) #[true, true, true, true, true, true, true, true, false] rfl rfl (one_of HT_.out (by kernel_rfl)) (by decide) (fun K hK => ?_)
      refine goes_ Try.func21 (by kernel_rfl) rfl #[.agg #[.int .i64 t352, .int .i64 t353], .agg #[.int .i64 t354, .int .i64 t355]] (by rfl) rfl rfl (by (try simp only [List.map_toArray, List.map_cons, List.map_nil]); first | done | rfl | (simp only [List.length_drop, List.length_take]; rfl)) ?_
      with_reducible refine (impl_TwoMul.calls t352 t353 t354 t355 t356 t357 _ A24.out).mono ?_
      rintro e w36 ⟨rfl, hb⟩
      refine ⟨_, rfl, ?_⟩
      replace BK346 := bB BK346 hb
      replace BK347 := bB BK347 hb
      replace BK348 := bB BK348 hb
      replace BK349 := bB BK349 hb
      replace BK350 := bB BK350 hb
      replace HB := bS HB hb
      (try clear hb)
      (try clear hb2)
      (try clear hk)
      (try clear hi)
      refine hK.out _ _ ⟨bc BK349 0, bc BK349 1, bc BK350 0, bc BK350 1, bc BK350 2, bc BK347 0, bc BK347 1, bc BK347 2⟩ (fun hHeld => ?_)
      clear hK K
      refine norm_ (a' := ?_) ?_ ?_
      rotate_left
      ·show Act.put _ (some 23) _ = _
       simp only [Act.put, List.setIfInBounds_toArray, List.set_cons_zero, List.set_cons_succ, i64_w, i32_w]
       rfl
      refine last_ (i := 8) (N := none) #[true, true, true, true, true, true, true, true, true] rfl rfl (one_of HT_.out (by kernel_rfl)) (by decide) (fun K hK => ?_)
      have hs37 : w36.cell? ⟨gb349, 0, none⟩ = some (.int .i64 x350000_1) := bc BK349 0
      have hfs37 := blk_frozen BK349.out 0
      have hns37_0 := NB346_349.out
      have hns37_1 := NB347_349.out
      have hns37_2 := NB348_349.out
      have hns37_4 := NB350_349.out
      have hms37_0 := NB349_346.out
      have hms37_1 := NB349_347.out
      have hms37_2 := NB349_348.out
      have hms37_4 := NB349_350.out
      have hs38 : w36.cell? ⟨gb349, 1, none⟩ = some (.int .i64 x350001_1) := bc BK349 1
      have hfs38 := blk_frozen BK349.out 1
      have hns38_0 := NB346_349.out
      have hns38_1 := NB347_349.out
      have hns38_2 := NB348_349.out
      have hns38_4 := NB350_349.out
      have hms38_0 := NB349_346.out
      have hms38_1 := NB349_347.out
      have hms38_2 := NB349_348.out
      have hms38_4 := NB349_350.out
      refine skip_ (w1 := ?_) (by rfl) rfl ?_ ?_
      rotate_left
      ·go_simp
       rfl
      refine hK.out _ _ ?_
      clear hK K
      refine done_ (done_of HT_.out (by kernel_rfl)) ?_
      have hnb39 := NB350_346.out
      have hnc39 := NB346_350.out
      have hnb40 := NB350_347.out
      have hnc40 := NB347_350.out
      have hnb41 := NB350_348.out
      have hnc41 := NB348_350.out
      have hnb42 := NB350_349.out
      have hnc42 := NB349_350.out
      have hcz43_0 : w36.cell? ⟨gb350, 0, none⟩ = some (.int .i64 x351000_1) := bc BK350 0
      have hcz43_1 : w36.cell? ⟨gb350, 1, none⟩ = some (.int .i64 x351001_1) := bc BK350 1
      have hcz43_2 : w36.cell? ⟨gb350, 2, none⟩ = some (.bool x351002_1) := bc BK350 2
      have hfz43_0 := blk_frozen BK350.out 0
      have hfz43_1 := blk_frozen BK350.out 1
      have hfz43_2 := blk_frozen BK350.out 2
      try go_wp2_with (first | ((with_reducible refine gate_callee (f := 19) rfl ?_); refine goesL_ (some 26) rfl rfl Try.func19 (by kernel_rfl) rfl #[.agg #[.int .i64 x351000_1, .int .i64 x351001_1, .bool x351002_1], .agg #[.int .i64 x351000_1, .int .i64 x351001_1, .bool x351002_1]] rfl (by (try simp only [List.map_toArray, List.map_cons, List.map_nil]); first | done | rfl | (simp only [List.length_drop, List.length_take]; rfl)) ?_; (with_reducible refine (impl_PointAdd.calls k1 x351000_1 x351001_1 x351002_1 x351000_1 x351001_1 x351002_1 t358 t359 t360 _ A25.out).mono ?_); rintro e w44 ⟨rfl, hb⟩; refine ⟨_, rfl, ?_⟩; replace BK346 := bB BK346 hb; replace BK347 := bB BK347 hb; replace BK348 := bB BK348 hb; replace BK349 := Aside0.mk (blk_below (g := gb349) (o := .cells #[.int .i64 t356, .int .i64 t357] 31 (0, 0)) (by (with_reducible repeat (first | refine blk_drewN ?_ _ | refine blk_drew ?_ | refine blk_alloc ?_ _)); refine blk_put (cs := #[.int .i64 t356, .int .i64 x350001_1]) ?_ 1 _ rfl; (with_reducible repeat (first | refine blk_drewN ?_ _ | refine blk_drew ?_ | refine blk_alloc ?_ _)); refine blk_put (cs := #[.int .i64 x350000_1, .int .i64 x350001_1]) ?_ 0 _ rfl; (with_reducible repeat (first | refine blk_drewN ?_ _ | refine blk_drew ?_ | refine blk_alloc ?_ _)); exact BK349.out) hb); replace BK350 := bB BK350 hb; replace HB := bS HB hb; (try clear hb); (try clear hb2); (try clear hk); (try clear hi); have hcz45_0 : w44.cell? ⟨gb350, 0, none⟩ = some (.int .i64 x351000_1) := bc BK350 0; have hcz45_1 : w44.cell? ⟨gb350, 1, none⟩ = some (.int .i64 x351001_1) := bc BK350 1; have hcz45_2 : w44.cell? ⟨gb350, 2, none⟩ = some (.bool x351002_1) := bc BK350 2; have hfz45_0 := blk_frozen BK350.out 0; have hfz45_1 := blk_frozen BK350.out 1; have hfz45_2 := blk_frozen BK350.out 2))
      have n0_ : Aside0 ((((w44.setCell ⟨gb350, 0, none⟩ (.int .i64 t358)).setCell ⟨gb350, 1, none⟩ (.int .i64 t359)).setCell ⟨gb350, 2, none⟩ (.bool t360)).heap[gb346]? = some (.cells #[.int .i64 a0_0, .int .i64 a0_1, .bool a0_2] 25 (0, 0))) := ⟨bP BK346⟩
      have n1_ : Aside0 ((((w44.setCell ⟨gb350, 0, none⟩ (.int .i64 t358)).setCell ⟨gb350, 1, none⟩ (.int .i64 t359)).setCell ⟨gb350, 2, none⟩ (.bool t360)).heap[gb347]? = some (.cells #[.int .i64 a1_0, .int .i64 a1_1, .bool a1_2] 25 (0, 0))) := ⟨bP BK347⟩
      have n2_ : Aside0 ((((w44.setCell ⟨gb350, 0, none⟩ (.int .i64 t358)).setCell ⟨gb350, 1, none⟩ (.int .i64 t359)).setCell ⟨gb350, 2, none⟩ (.bool t360)).heap[gb348]? = some (.cells #[.int .i64 0, .int .i64 0] 31 (0, 0))) := ⟨bP BK348⟩
      have n3_ : Aside0 ((((w44.setCell ⟨gb350, 0, none⟩ (.int .i64 t358)).setCell ⟨gb350, 1, none⟩ (.int .i64 t359)).setCell ⟨gb350, 2, none⟩ (.bool t360)).heap[gb349]? = some (.cells #[.int .i64 t356, .int .i64 t357] 31 (0, 0))) := ⟨bP BK349⟩
      have n4_ : Aside0 ((((w44.setCell ⟨gb350, 0, none⟩ (.int .i64 t358)).setCell ⟨gb350, 1, none⟩ (.int .i64 t359)).setCell ⟨gb350, 2, none⟩ (.bool t360)).heap[gb350]? = some (.cells #[.int .i64 t358, .int .i64 t359, .bool t360] 25 (0, 0))) := ⟨by (with_reducible repeat (first | refine blk_drewN ?_ _ | refine blk_drew ?_ | refine blk_alloc ?_ _)); refine blk_put (cs := #[.int .i64 t358, .int .i64 t359, .bool x351002_1]) ?_ 2 _ rfl; (with_reducible repeat (first | refine blk_drewN ?_ _ | refine blk_drew ?_ | refine blk_alloc ?_ _)); refine blk_put (cs := #[.int .i64 t358, .int .i64 x351001_1, .bool x351002_1]) ?_ 1 _ rfl; (with_reducible repeat (first | refine blk_drewN ?_ _ | refine blk_drew ?_ | refine blk_alloc ?_ _)); refine blk_put (cs := #[.int .i64 x351000_1, .int .i64 x351001_1, .bool x351002_1]) ?_ 0 _ rfl; (with_reducible repeat (first | refine blk_drewN ?_ _ | refine blk_drew ?_ | refine blk_alloc ?_ _)); exact BK350.out⟩
      have n5_ : Aside0 (Below w.heap.size w (((w44.setCell ⟨gb350, 0, none⟩ (.int .i64 t358)).setCell ⟨gb350, 1, none⟩ (.int .i64 t359)).setCell ⟨gb350, 2, none⟩ (.bool t360))) := ⟨bZ HB⟩
      (try clear BK346)
      (try clear BK347)
      (try clear BK348)
      (try clear BK349)
      (try clear BK350)
      (try clear HB)
      generalize (((w44.setCell ⟨gb350, 0, none⟩ (.int .i64 t358)).setCell ⟨gb350, 1, none⟩ (.int .i64 t359)).setCell ⟨gb350, 2, none⟩ (.bool t360)) = w46 at n0_ n1_ n2_ n3_ n4_ n5_ ⊢
      have BK346 := n0_
      have BK347 := n1_
      have BK348 := n2_
      have BK349 := n3_
      have BK350 := n4_
      have HB := n5_
      clear n0_ n1_ n2_ n3_ n4_ n5_
      replace BK346 := Aside0.mk (blk_drew BK346.out)
      replace BK347 := Aside0.mk (blk_drew BK347.out)
      replace BK348 := Aside0.mk (blk_drew BK348.out)
      replace BK349 := Aside0.mk (blk_drew BK349.out)
      replace BK350 := Aside0.mk (blk_drew BK350.out)
      replace HB := Aside0.mk (below_drew1 HB.out)
      refine start_ (n := 7) (S := fun w' => w'.cell? ⟨gb349, 0, none⟩ = some (.int .i64 t356) ∧ w'.cell? ⟨gb349, 1, none⟩ = some (.int .i64 t357) ∧ w'.cell? ⟨gb350, 0, none⟩ = some (.int .i64 t358) ∧ w'.cell? ⟨gb350, 1, none⟩ = some (.int .i64 t359) ∧ w'.cell? ⟨gb350, 2, none⟩ = some (.bool t360) ∧ w'.cell? ⟨gb346, 0, none⟩ = some (.int .i64 a0_0) ∧ w'.cell? ⟨gb346, 1, none⟩ = some (.int .i64 a0_1) ∧ w'.cell? ⟨gb346, 2, none⟩ = some (.bool a0_2) ∧ w'.cell? ⟨gb347, 0, none⟩ = some (.int .i64 a1_0) ∧ w'.cell? ⟨gb347, 1, none⟩ = some (.int .i64 a1_1) ∧ w'.cell? ⟨gb347, 2, none⟩ = some (.bool a1_2)) (ds := [6]) #[false, false, false, false, false, false, false] (by kernel_rfl) rfl rfl ⟨bc BK349 0, bc BK349 1, bc BK350 0, bc BK350 1, bc BK350 2, bc BK346 0, bc BK346 1, bc BK346 2, bc BK347 0, bc BK347 1, bc BK347 2⟩ (fun hHeld => ?_)
      generalize w46.drew = w47 at BK346 BK347 BK348 BK349 BK350 HB hHeld ⊢
      refine take_ (i := 0) (N := some 32) (v := ?_) (a' := ?_) #[true, false, false, false, false, false, false] rfl rfl (by kernel_rfl) (fun _ _ _ h => h) (Or.inl ⟨by rfl, ?_⟩) hHeld ?_ ?_
      rotate_left
      ·rintro w' ⟨s0, s1, s2, s3, s4, s5, s6, s7, s8, s9, s10⟩
       go_simp
       with_reducible rfl
      rotate_left
      ·simp only [Act.put, List.setIfInBounds_toArray, List.set_cons_zero, List.set_cons_succ, i64_w, i32_w]
       rfl
      refine take_ (i := 1) (N := some 33) (v := ?_) (a' := ?_) #[true, true, false, false, false, false, false] rfl rfl (by kernel_rfl) (fun _ _ _ h => h) (Or.inl ⟨by rfl, ?_⟩) hHeld ?_ ?_
      rotate_left
      ·rintro w' ⟨s0, s1, s2, s3, s4, s5, s6, s7, s8, s9, s10⟩
       go_simp
       with_reducible rfl
      rotate_left
      ·simp only [Act.put, List.setIfInBounds_toArray, List.set_cons_zero, List.set_cons_succ, i64_w, i32_w]
       rfl
      refine take_ (i := 2) (N := some 34) (v := ?_) (a' := ?_) #[true, true, true, false, false, false, false] rfl rfl (by kernel_rfl) (fun _ _ _ h => h) (Or.inl ⟨by rfl, ?_⟩) hHeld ?_ ?_
      rotate_left
      ·rintro w' ⟨s0, s1, s2, s3, s4, s5, s6, s7, s8, s9, s10⟩
       go_simp
       with_reducible rfl
      rotate_left
      ·simp only [Act.put, List.setIfInBounds_toArray, List.set_cons_zero, List.set_cons_succ, i64_w, i32_w]
       rfl
      refine take_ (i := 3) (N := some 35) (v := ?_) (a' := ?_) #[true, true, true, true, false, false, false] rfl rfl (by kernel_rfl) (fun _ _ _ h => h) (Or.inl ⟨by rfl, ?_⟩) hHeld ?_ ?_
      rotate_left
      ·rintro w' ⟨s0, s1, s2, s3, s4, s5, s6, s7, s8, s9, s10⟩
       go_simp
       with_reducible rfl
      rotate_left
      ·simp only [Act.put, List.setIfInBounds_toArray, List.set_cons_zero, List.set_cons_succ, i64_w, i32_w]
       rfl
      refine one_ (i := 4) (N := some 36) #[true, true, true, true, true, false, false] rfl rfl (by kernel_rfl) (by decide) (fun K hK => ?_)
      refine goes_ Try.func25 (by kernel_rfl) rfl #[.agg #[.int .i64 t358, .int .i64 t359, .bool t360], .agg #[.int .i64 a0_0, .int .i64 a0_1, .bool a0_2], .agg #[.int .i64 a1_0, .int .i64 a1_1, .bool a1_2]] (by rfl) rfl rfl (by (try simp only [List.map_toArray, List.map_cons, List.map_nil]); first | done | rfl | (simp only [List.length_drop, List.length_take]; rfl)) ?_
      with_reducible refine (impl_PairLine.calls k1 t358 t359 t360 a0_0 a0_1 a0_2 a1_0 a1_1 a1_2 t361 t362 _ A30.out).mono ?_
      rintro e w48 ⟨rfl, hb⟩
      refine ⟨_, rfl, ?_⟩
      replace BK346 := bB BK346 hb
      replace BK347 := bB BK347 hb
      replace BK348 := bB BK348 hb
      replace BK349 := bB BK349 hb
      replace BK350 := bB BK350 hb
      replace HB := bS HB hb
      (try clear hb)
      (try clear hb2)
      (try clear hk)
      (try clear hi)
      refine hK.out _ _ ⟨bc BK349 0, bc BK349 1, bc BK350 0, bc BK350 1, bc BK350 2, bc BK346 0, bc BK346 1, bc BK346 2, bc BK347 0, bc BK347 1, bc BK347 2⟩ (fun hHeld => ?_)
      clear hK K
      refine norm_ (a' := ?_) ?_ ?_
      rotate_left
      ·show Act.put _ (some 36) _ = _
       simp only [Act.put, List.setIfInBounds_toArray, List.set_cons_zero, List.set_cons_succ, i64_w, i32_w]
       rfl
      refine one_ (i := 5) (N := some 37) #[true, true, true, true, true, true, false] rfl rfl (by kernel_rfl) (by decide) (fun K hK => ?_)
      refine goes_ Try.func21 (by kernel_rfl) rfl #[.agg #[.int .i64 t356, .int .i64 t357], .agg #[.int .i64 t361, .int .i64 t362]] (by rfl) rfl rfl (by (try simp only [List.map_toArray, List.map_cons, List.map_nil]); first | done | rfl | (simp only [List.length_drop, List.length_take]; rfl)) ?_
      with_reducible refine (impl_TwoMul.calls t356 t357 t361 t362 t363 t364 _ A31.out).mono ?_
      rintro e w49 ⟨rfl, hb⟩
      refine ⟨_, rfl, ?_⟩
      replace BK346 := bB BK346 hb
      replace BK347 := bB BK347 hb
      replace BK348 := bB BK348 hb
      replace BK349 := bB BK349 hb
      replace BK350 := bB BK350 hb
      replace HB := bS HB hb
      (try clear hb)
      (try clear hb2)
      (try clear hk)
      (try clear hi)
      refine hK.out _ _ ⟨bc BK349 0, bc BK349 1, bc BK350 0, bc BK350 1, bc BK350 2, bc BK346 0, bc BK346 1, bc BK346 2, bc BK347 0, bc BK347 1, bc BK347 2⟩ (fun hHeld => ?_)
      clear hK K
      refine norm_ (a' := ?_) ?_ ?_
      rotate_left
      ·show Act.put _ (some 37) _ = _
       simp only [Act.put, List.setIfInBounds_toArray, List.set_cons_zero, List.set_cons_succ, i64_w, i32_w]
       rfl
      refine last_ (i := 6) (N := none) #[true, true, true, true, true, true, true] rfl rfl (by kernel_rfl) (by decide) (fun K hK => ?_)
      have hs50 : w49.cell? ⟨gb349, 0, none⟩ = some (.int .i64 t356) := bc BK349 0
      have hfs50 := blk_frozen BK349.out 0
      have hns50_0 := NB346_349.out
      have hns50_1 := NB347_349.out
      have hns50_2 := NB348_349.out
      have hns50_4 := NB350_349.out
      have hms50_0 := NB349_346.out
      have hms50_1 := NB349_347.out
      have hms50_2 := NB349_348.out
      have hms50_4 := NB349_350.out
      have hs51 : w49.cell? ⟨gb349, 1, none⟩ = some (.int .i64 t357) := bc BK349 1
      have hfs51 := blk_frozen BK349.out 1
      have hns51_0 := NB346_349.out
      have hns51_1 := NB347_349.out
      have hns51_2 := NB348_349.out
      have hns51_4 := NB350_349.out
      have hms51_0 := NB349_346.out
      have hms51_1 := NB349_347.out
      have hms51_2 := NB349_348.out
      have hms51_4 := NB349_350.out
      refine skip_ (w1 := ?_) (by rfl) rfl ?_ ?_
      rotate_left
      ·go_simp
       rfl
      refine hK.out _ _ ?_
      clear hK K
      refine done_ (by kernel_rfl) ?_
      have hcz52_0 : w49.cell? ⟨gb350, 0, none⟩ = some (.int .i64 t358) := bc BK350 0
      have hcz52_1 : w49.cell? ⟨gb350, 1, none⟩ = some (.int .i64 t359) := bc BK350 1
      have hcz52_2 : w49.cell? ⟨gb350, 2, none⟩ = some (.bool t360) := bc BK350 2
      have hfz52_0 := blk_frozen BK350.out 0
      have hfz52_1 := blk_frozen BK350.out 1
      have hfz52_2 := blk_frozen BK350.out 2
      have hnb53 := NB346_347.out
      have hnc53 := NB347_346.out
      have hnb54 := NB346_348.out
      have hnc54 := NB348_346.out
      have hnb55 := NB346_349.out
      have hnc55 := NB349_346.out
      have hcz56_0 : w49.cell? ⟨gb346, 0, none⟩ = some (.int .i64 a0_0) := bc BK346 0
      have hcz56_1 : w49.cell? ⟨gb346, 1, none⟩ = some (.int .i64 a0_1) := bc BK346 1
      have hcz56_2 : w49.cell? ⟨gb346, 2, none⟩ = some (.bool a0_2) := bc BK346 2
      have hfz56_0 := blk_frozen BK346.out 0
      have hfz56_1 := blk_frozen BK346.out 1
      have hfz56_2 := blk_frozen BK346.out 2
      try go_wp2_with (first | ((with_reducible refine gate_callee (f := 19) rfl ?_); refine goesL_ (some 40) rfl rfl Try.func19 (by kernel_rfl) rfl #[.agg #[.int .i64 t358, .int .i64 t359, .bool t360], .agg #[.int .i64 a0_0, .int .i64 a0_1, .bool a0_2]] rfl (by (try simp only [List.map_toArray, List.map_cons, List.map_nil]); first | done | rfl | (simp only [List.length_drop, List.length_take]; rfl)) ?_; (with_reducible refine (impl_PointAdd.calls k1 t358 t359 t360 a0_0 a0_1 a0_2 t365 t366 t367 _ A32.out).mono ?_); rintro e w57 ⟨rfl, hb⟩; refine ⟨_, rfl, ?_⟩; replace BK346 := bB BK346 hb; replace BK347 := bB BK347 hb; replace BK348 := bB BK348 hb; replace BK349 := Aside0.mk (blk_below (g := gb349) (o := .cells #[.int .i64 t363, .int .i64 t364] 31 (0, 0)) (by (with_reducible repeat (first | refine blk_drewN ?_ _ | refine blk_drew ?_ | refine blk_alloc ?_ _)); refine blk_put (cs := #[.int .i64 t363, .int .i64 t357]) ?_ 1 _ rfl; (with_reducible repeat (first | refine blk_drewN ?_ _ | refine blk_drew ?_ | refine blk_alloc ?_ _)); refine blk_put (cs := #[.int .i64 t356, .int .i64 t357]) ?_ 0 _ rfl; (with_reducible repeat (first | refine blk_drewN ?_ _ | refine blk_drew ?_ | refine blk_alloc ?_ _)); exact BK349.out) hb); replace BK350 := bB BK350 hb; replace HB := bS HB hb; (try clear hb); (try clear hb2); (try clear hk); (try clear hi); have hcz58_0 : w57.cell? ⟨gb350, 0, none⟩ = some (.int .i64 t358) := bc BK350 0; have hcz58_1 : w57.cell? ⟨gb350, 1, none⟩ = some (.int .i64 t359) := bc BK350 1; have hcz58_2 : w57.cell? ⟨gb350, 2, none⟩ = some (.bool t360) := bc BK350 2; have hfz58_0 := blk_frozen BK350.out 0; have hfz58_1 := blk_frozen BK350.out 1; have hfz58_2 := blk_frozen BK350.out 2))
      go_roundg k1
      case measure => have := HK1.out; omega
      case rel => exact ⟨(wrap64 (x7_1 - 1)), (t363), (t364), (t365), (t366), (t367), (by first | rfl | (simp; done) | (simp [*]; done)), H', ⟨by have := HK1.out; omega⟩, ⟨bP BK346⟩, ⟨bP BK347⟩, ⟨bP BK348⟩, ⟨bP BK349⟩, ⟨by (with_reducible repeat (first | refine blk_drewN ?_ _ | refine blk_drew ?_ | refine blk_alloc ?_ _)); refine blk_put (cs := #[.int .i64 t365, .int .i64 t366, .bool t360]) ?_ 2 _ rfl; (with_reducible repeat (first | refine blk_drewN ?_ _ | refine blk_drew ?_ | refine blk_alloc ?_ _)); refine blk_put (cs := #[.int .i64 t365, .int .i64 t359, .bool t360]) ?_ 1 _ rfl; (with_reducible repeat (first | refine blk_drewN ?_ _ | refine blk_drew ?_ | refine blk_alloc ?_ _)); refine blk_put (cs := #[.int .i64 t358, .int .i64 t359, .bool t360]) ?_ 0 _ rfl; (with_reducible repeat (first | refine blk_drewN ?_ _ | refine blk_drew ?_ | refine blk_alloc ?_ _)); exact BK350.out⟩, ⟨bZ HB⟩⟩
     ·rw [if_neg c29] at H
      have c29b0 : ((Go.bits .and .i64 (ji28) 1) == 1) = false := beq_eq_false_iff_ne.mpr c29
      have c29b1 : ((Go.bits .and .i64 (ji28) 1) != 1) = true := bne_iff_ne.mpr c29
      have H' := Aside0.mk H
      clear H
      try go_wp2
      replace BK346 := Aside0.mk (blk_drew BK346.out)
      replace BK347 := Aside0.mk (blk_drew BK347.out)
      replace BK348 := Aside0.mk (blk_drew BK348.out)
      replace BK349 := Aside0.mk (blk_drew BK349.out)
      replace BK350 := Aside0.mk (blk_drew BK350.out)
      replace HB := Aside0.mk (below_drew1 HB.out)
      refine start_ (n := 9) (S := fun w' => w'.cell? ⟨gb349, 0, none⟩ = some (.int .i64 x350000_1) ∧ w'.cell? ⟨gb349, 1, none⟩ = some (.int .i64 x350001_1) ∧ w'.cell? ⟨gb350, 0, none⟩ = some (.int .i64 x351000_1) ∧ w'.cell? ⟨gb350, 1, none⟩ = some (.int .i64 x351001_1) ∧ w'.cell? ⟨gb350, 2, none⟩ = some (.bool x351002_1) ∧ w'.cell? ⟨gb347, 0, none⟩ = some (.int .i64 a1_0) ∧ w'.cell? ⟨gb347, 1, none⟩ = some (.int .i64 a1_1) ∧ w'.cell? ⟨gb347, 2, none⟩ = some (.bool a1_2)) (ds := [8]) #[false, false, false, false, false, false, false, false, false] (by kernel_rfl) rfl rfl ⟨bc BK349 0, bc BK349 1, bc BK350 0, bc BK350 1, bc BK350 2, bc BK347 0, bc BK347 1, bc BK347 2⟩ (fun hHeld => ?_); refine with_tabW impl_Miller.tab6 impl_Miller.bits6 (fun HT_ HW_ => ?_)
      generalize wr.drew = w59 at BK346 BK347 BK348 BK349 BK350 HB hHeld ⊢
      refine take_ (i := 0) (N := some 16) (v := ?_) (a' := ?_) #[true, false, false, false, false, false, false, false, false] rfl rfl (take_ofW HT_.out HW_.out (by kernel_rfl)) (fun _ _ _ h => h) (Or.inl ⟨by rfl, ?_⟩) hHeld ?_ ?_
      rotate_left
      ·rintro w' ⟨s0, s1, s2, s3, s4, s5, s6, s7⟩
       go_simp
       with_reducible rfl
      rotate_left
      ·simp only [Act.put, List.setIfInBounds_toArray, List.set_cons_zero, List.set_cons_succ, i64_w, i32_w]
       rfl
      refine take_ (i := 1) (N := some 17) (v := ?_) (a' := ?_) #[true, true, false, false, false, false, false, false, false] rfl rfl (take_ofW HT_.out HW_.out (by kernel_rfl)) (fun _ _ _ h => h) (Or.inl ⟨by rfl, ?_⟩) hHeld ?_ ?_
      rotate_left
      ·rintro w' ⟨s0, s1, s2, s3, s4, s5, s6, s7⟩
       go_simp
       with_reducible rfl
      rotate_left
      ·simp only [Act.put, List.setIfInBounds_toArray, List.set_cons_zero, List.set_cons_succ, i64_w, i32_w]
       rfl
      refine take_ (i := 3) (N := some 19) (v := ?_) (a' := ?_) #[true, true, false, true, false, false, false, false, false] rfl rfl (take_ofW HT_.out HW_.out (by kernel_rfl)) (fun _ _ _ h => h) (Or.inl ⟨by rfl, ?_⟩) hHeld ?_ ?_
      rotate_left
      ·rintro w' ⟨s0, s1, s2, s3, s4, s5, s6, s7⟩
       go_simp
       with_reducible rfl
      rotate_left
      ·simp only [Act.put, List.setIfInBounds_toArray, List.set_cons_zero, List.set_cons_succ, i64_w, i32_w]
       rfl
      refine take_ (i := 4) (N := some 20) (v := ?_) (a' := ?_) #[true, true, false, true, true, false, false, false, false] rfl rfl (take_ofW HT_.out HW_.out (by kernel_rfl)) (fun _ _ _ h => h) (Or.inl ⟨by rfl, ?_⟩) hHeld ?_ ?_
      rotate_left
      ·rintro w' ⟨s0, s1, s2, s3, s4, s5, s6, s7⟩
       go_simp
       with_reducible rfl
      rotate_left
      ·simp only [Act.put, List.setIfInBounds_toArray, List.set_cons_zero, List.set_cons_succ, i64_w, i32_w]
       rfl
      refine take_ (i := 5) (N := some 21) (v := ?_) (a' := ?_) #[true, true, false, true, true, true, false, false, false] rfl rfl (take_ofW HT_.out HW_.out (by kernel_rfl)) (fun _ _ _ h => h) (Or.inl ⟨by rfl, ?_⟩) hHeld ?_ ?_
      rotate_left
      ·rintro w' ⟨s0, s1, s2, s3, s4, s5, s6, s7⟩
       go_simp
       with_reducible rfl
      rotate_left
      ·simp only [Act.put, List.setIfInBounds_toArray, List.set_cons_zero, List.set_cons_succ, i64_w, i32_w]
       rfl
      refine one_ (i := 2) (N := some 18) #[true, true, true, true, true, true, false, false, false] rfl rfl (one_of HT_.out (by kernel_rfl)) (by decide) (fun K hK => ?_)
      refine goes_ Try.func21 (by kernel_rfl) rfl #[.agg #[.int .i64 x350000_1, .int .i64 x350001_1], .agg #[.int .i64 x350000_1, .int .i64 x350001_1]] (by rfl) rfl rfl (by (try simp only [List.map_toArray, List.map_cons, List.map_nil]); first | done | rfl | (simp only [List.length_drop, List.length_take]; rfl)) ?_
      with_reducible refine (impl_TwoMul.calls x350000_1 x350001_1 x350000_1 x350001_1 t352 t353 _ A22.out).mono ?_
      rintro e w60 ⟨rfl, hb⟩
      refine ⟨_, rfl, ?_⟩
      replace BK346 := bB BK346 hb
      replace BK347 := bB BK347 hb
      replace BK348 := bB BK348 hb
      replace BK349 := bB BK349 hb
      replace BK350 := bB BK350 hb
      replace HB := bS HB hb
      (try clear hb)
      (try clear hb2)
      (try clear hk)
      (try clear hi)
      refine hK.out _ _ ⟨bc BK349 0, bc BK349 1, bc BK350 0, bc BK350 1, bc BK350 2, bc BK347 0, bc BK347 1, bc BK347 2⟩ (fun hHeld => ?_)
      clear hK K
      refine norm_ (a' := ?_) ?_ ?_
      rotate_left
      ·show Act.put _ (some 18) _ = _
       simp only [Act.put, List.setIfInBounds_toArray, List.set_cons_zero, List.set_cons_succ, i64_w, i32_w]
       rfl
      refine one_ (i := 6) (N := some 22) #[true, true, true, true, true, true, true, false, false] rfl rfl (one_of HT_.out (by kernel_rfl)) (by decide) (fun K hK => ?_)
      refine goes_ Try.func25 (by kernel_rfl) rfl #[.agg #[.int .i64 x351000_1, .int .i64 x351001_1, .bool x351002_1], .agg #[.int .i64 x351000_1, .int .i64 x351001_1, .bool x351002_1], .agg #[.int .i64 a1_0, .int .i64 a1_1, .bool a1_2]] (by rfl) rfl rfl (by (try simp only [List.map_toArray, List.map_cons, List.map_nil]); first | done | rfl | (simp only [List.length_drop, List.length_take]; rfl)) ?_
      with_reducible refine (impl_PairLine.calls k1 x351000_1 x351001_1 x351002_1 x351000_1 x351001_1 x351002_1 a1_0 a1_1 a1_2 t354 t355 _ A23.out).mono ?_
      rintro e w61 ⟨rfl, hb⟩
      refine ⟨_, rfl, ?_⟩
      replace BK346 := bB BK346 hb
      replace BK347 := bB BK347 hb
      replace BK348 := bB BK348 hb
      replace BK349 := bB BK349 hb
      replace BK350 := bB BK350 hb
      replace HB := bS HB hb
      (try clear hb)
      (try clear hb2)
      (try clear hk)
      (try clear hi)
      refine hK.out _ _ ⟨bc BK349 0, bc BK349 1, bc BK350 0, bc BK350 1, bc BK350 2, bc BK347 0, bc BK347 1, bc BK347 2⟩ (fun hHeld => ?_)
      clear hK K
      refine norm_ (a' := ?_) ?_ ?_
      rotate_left
      ·show Act.put _ (some 22) _ = _
       simp only [Act.put, List.setIfInBounds_toArray, List.set_cons_zero, List.set_cons_succ, i64_w, i32_w]
       rfl
      refine one_ (i := 7) (N := some 23) #[true, true, true, true, true, true, true, true, false] rfl rfl (one_of HT_.out (by kernel_rfl)) (by decide) (fun K hK => ?_)
      refine goes_ Try.func21 (by kernel_rfl) rfl #[.agg #[.int .i64 t352, .int .i64 t353], .agg #[.int .i64 t354, .int .i64 t355]] (by rfl) rfl rfl (by (try simp only [List.map_toArray, List.map_cons, List.map_nil]); first | done | rfl | (simp only [List.length_drop, List.length_take]; rfl)) ?_
      with_reducible refine (impl_TwoMul.calls t352 t353 t354 t355 t356 t357 _ A24.out).mono ?_
      rintro e w62 ⟨rfl, hb⟩
      refine ⟨_, rfl, ?_⟩
      replace BK346 := bB BK346 hb
      replace BK347 := bB BK347 hb
      replace BK348 := bB BK348 hb
      replace BK349 := bB BK349 hb
      replace BK350 := bB BK350 hb
      replace HB := bS HB hb
      (try clear hb)
      (try clear hb2)
      (try clear hk)
      (try clear hi)
      refine hK.out _ _ ⟨bc BK349 0, bc BK349 1, bc BK350 0, bc BK350 1, bc BK350 2, bc BK347 0, bc BK347 1, bc BK347 2⟩ (fun hHeld => ?_)
      clear hK K
      refine norm_ (a' := ?_) ?_ ?_
      rotate_left
      ·show Act.put _ (some 23) _ = _
       simp only [Act.put, List.setIfInBounds_toArray, List.set_cons_zero, List.set_cons_succ, i64_w, i32_w]
       rfl
      refine last_ (i := 8) (N := none) #[true, true, true, true, true, true, true, true, true] rfl rfl (one_of HT_.out (by kernel_rfl)) (by decide) (fun K hK => ?_)
      have hs63 : w62.cell? ⟨gb349, 0, none⟩ = some (.int .i64 x350000_1) := bc BK349 0
      have hfs63 := blk_frozen BK349.out 0
      have hns63_0 := NB346_349.out
      have hns63_1 := NB347_349.out
      have hns63_2 := NB348_349.out
      have hns63_4 := NB350_349.out
      have hms63_0 := NB349_346.out
      have hms63_1 := NB349_347.out
      have hms63_2 := NB349_348.out
      have hms63_4 := NB349_350.out
      have hs64 : w62.cell? ⟨gb349, 1, none⟩ = some (.int .i64 x350001_1) := bc BK349 1
      have hfs64 := blk_frozen BK349.out 1
      have hns64_0 := NB346_349.out
      have hns64_1 := NB347_349.out
      have hns64_2 := NB348_349.out
      have hns64_4 := NB350_349.out
      have hms64_0 := NB349_346.out
      have hms64_1 := NB349_347.out
      have hms64_2 := NB349_348.out
      have hms64_4 := NB349_350.out
      refine skip_ (w1 := ?_) (by rfl) rfl ?_ ?_
      rotate_left
      ·go_simp
       rfl
      refine hK.out _ _ ?_
      clear hK K
      refine done_ (done_of HT_.out (by kernel_rfl)) ?_
      have hnb65 := NB350_346.out
      have hnc65 := NB346_350.out
      have hnb66 := NB350_347.out
      have hnc66 := NB347_350.out
      have hnb67 := NB350_348.out
      have hnc67 := NB348_350.out
      have hnb68 := NB350_349.out
      have hnc68 := NB349_350.out
      have hcz69_0 : w62.cell? ⟨gb350, 0, none⟩ = some (.int .i64 x351000_1) := bc BK350 0
      have hcz69_1 : w62.cell? ⟨gb350, 1, none⟩ = some (.int .i64 x351001_1) := bc BK350 1
      have hcz69_2 : w62.cell? ⟨gb350, 2, none⟩ = some (.bool x351002_1) := bc BK350 2
      have hfz69_0 := blk_frozen BK350.out 0
      have hfz69_1 := blk_frozen BK350.out 1
      have hfz69_2 := blk_frozen BK350.out 2
      try go_wp2_with (first | ((with_reducible refine gate_callee (f := 19) rfl ?_); refine goesL_ (some 26) rfl rfl Try.func19 (by kernel_rfl) rfl #[.agg #[.int .i64 x351000_1, .int .i64 x351001_1, .bool x351002_1], .agg #[.int .i64 x351000_1, .int .i64 x351001_1, .bool x351002_1]] rfl (by (try simp only [List.map_toArray, List.map_cons, List.map_nil]); first | done | rfl | (simp only [List.length_drop, List.length_take]; rfl)) ?_; (with_reducible refine (impl_PointAdd.calls k1 x351000_1 x351001_1 x351002_1 x351000_1 x351001_1 x351002_1 t358 t359 t360 _ A25.out).mono ?_); rintro e w70 ⟨rfl, hb⟩; refine ⟨_, rfl, ?_⟩; replace BK346 := bB BK346 hb; replace BK347 := bB BK347 hb; replace BK348 := bB BK348 hb; replace BK349 := Aside0.mk (blk_below (g := gb349) (o := .cells #[.int .i64 t356, .int .i64 t357] 31 (0, 0)) (by (with_reducible repeat (first | refine blk_drewN ?_ _ | refine blk_drew ?_ | refine blk_alloc ?_ _)); refine blk_put (cs := #[.int .i64 t356, .int .i64 x350001_1]) ?_ 1 _ rfl; (with_reducible repeat (first | refine blk_drewN ?_ _ | refine blk_drew ?_ | refine blk_alloc ?_ _)); refine blk_put (cs := #[.int .i64 x350000_1, .int .i64 x350001_1]) ?_ 0 _ rfl; (with_reducible repeat (first | refine blk_drewN ?_ _ | refine blk_drew ?_ | refine blk_alloc ?_ _)); exact BK349.out) hb); replace BK350 := bB BK350 hb; replace HB := bS HB hb; (try clear hb); (try clear hb2); (try clear hk); (try clear hi); have hcz71_0 : w70.cell? ⟨gb350, 0, none⟩ = some (.int .i64 x351000_1) := bc BK350 0; have hcz71_1 : w70.cell? ⟨gb350, 1, none⟩ = some (.int .i64 x351001_1) := bc BK350 1; have hcz71_2 : w70.cell? ⟨gb350, 2, none⟩ = some (.bool x351002_1) := bc BK350 2; have hfz71_0 := blk_frozen BK350.out 0; have hfz71_1 := blk_frozen BK350.out 1; have hfz71_2 := blk_frozen BK350.out 2))
      go_roundg k1
      case measure => have := HK1.out; omega
      case rel => exact ⟨(wrap64 (x7_1 - 1)), (t356), (t357), (t358), (t359), (t360), (by first | rfl | (simp; done) | (simp [*]; done)), H', ⟨by have := HK1.out; omega⟩, ⟨bP BK346⟩, ⟨bP BK347⟩, ⟨bP BK348⟩, ⟨bP BK349⟩, ⟨by (with_reducible repeat (first | refine blk_drewN ?_ _ | refine blk_drew ?_ | refine blk_alloc ?_ _)); refine blk_put (cs := #[.int .i64 t358, .int .i64 t359, .bool x351002_1]) ?_ 2 _ rfl; (with_reducible repeat (first | refine blk_drewN ?_ _ | refine blk_drew ?_ | refine blk_alloc ?_ _)); refine blk_put (cs := #[.int .i64 t358, .int .i64 x351001_1, .bool x351002_1]) ?_ 1 _ rfl; (with_reducible repeat (first | refine blk_drewN ?_ _ | refine blk_drew ?_ | refine blk_alloc ?_ _)); refine blk_put (cs := #[.int .i64 x351000_1, .int .i64 x351001_1, .bool x351002_1]) ?_ 0 _ rfl; (with_reducible repeat (first | refine blk_drewN ?_ _ | refine blk_drew ?_ | refine blk_alloc ?_ _)); exact BK350.out⟩, ⟨bZ HB⟩⟩
    ·rw [if_neg c27] at H
     exact absurd H (by simp)
   ·rw [if_neg c21] at H
    have c21b0 : decide (0 ≤ x7_1) = false := decide_eq_false c21
    clear c21
    simp only [Option.some.injEq, Prod.mk.injEq] at H
    obtain ⟨rfl, rfl⟩ := H
    have hnb72 := NB349_346.out
    have hnc72 := NB346_349.out
    have hnb73 := NB349_347.out
    have hnc73 := NB347_349.out
    have hnb74 := NB349_348.out
    have hnc74 := NB348_349.out
    have hnb75 := NB349_350.out
    have hnc75 := NB350_349.out
    have hcz76_0 : wr.cell? ⟨gb349, 0, none⟩ = some (.int .i64 x350000_1) := bc BK349 0
    have hcz76_1 : wr.cell? ⟨gb349, 1, none⟩ = some (.int .i64 x350001_1) := bc BK349 1
    have hfz76_0 := blk_frozen BK349.out 0
    have hfz76_1 := blk_frozen BK349.out 1
    have hnb77 := NB348_346.out
    have hnc77 := NB346_348.out
    have hnb78 := NB348_347.out
    have hnc78 := NB347_348.out
    have hnb79 := NB348_350.out
    have hnc79 := NB350_348.out
    have hcz80_0 : wr.cell? ⟨gb348, 0, none⟩ = some (.int .i64 0) := bc BK348 0
    have hcz80_1 : wr.cell? ⟨gb348, 1, none⟩ = some (.int .i64 0) := bc BK348 1
    have hfz80_0 := blk_frozen BK348.out 0
    have hfz80_1 := blk_frozen BK348.out 1
    go_wp2
    refine bodyPost_ret (results_cell_row rfl _ _ gb348 31 #[.int .i64 x350000_1, .int .i64 x350001_1] (0, 0) _ rfl (by (with_reducible repeat (first | refine blk_drewN ?_ _ | refine blk_drew ?_ | refine blk_alloc ?_ _)); refine blk_put (cs := #[.int .i64 x350000_1, .int .i64 0]) ?_ 1 _ rfl; (with_reducible repeat (first | refine blk_drewN ?_ _ | refine blk_drew ?_ | refine blk_alloc ?_ _)); refine blk_put (cs := #[.int .i64 0, .int .i64 0]) ?_ 0 _ rfl; (with_reducible repeat (first | refine blk_drewN ?_ _ | refine blk_drew ?_ | refine blk_alloc ?_ _)); exact BK348.out) Try.underlying31 rfl (by kernel_rfl)) rfl ?_
    exact ⟨by first | rfl | (simp [errW_none, errW_some] <;> rfl) | (simp [*, errW_none, errW_some] <;> rfl), bZ HB⟩
/-! ### impl_InGroup: function 51 -/
def impl_InGroup.f (k : Nat) (a0_0 : Int) (a0_1 : Int) (a0_2 : Bool) : Option (Bool) := (impl_PointOk.f a0_0 a0_1 a0_2).bind fun t383 => (if t383 = true then ((impl_PointTimes.f k 1009 a0_0 a0_1 a0_2).bind fun bt384 => (some bt384.2.2)) else (some false))
theorem impl_InGroup.mono : ∀ a0 a1 a2 k, LeO (impl_InGroup.f k a0 a1 a2) (impl_InGroup.f (k + 1) a0 a1 a2) := by
 intro a0 a1 a2 k
 unfold impl_InGroup.f
 repeat' first
   | (with_reducible exact impl_PointTimes.mono _ _ _ _ _)
   | (with_reducible exact LeO.refl _)
   | (with_reducible exact LeO.none _)
   | (with_reducible refine LeO.ite ?_ ?_)
   | (with_reducible refine LeO.bind ?_ (fun _ => ?_))
   | exact impl_PointTimes.mono _ _ _ _ _
   | exact LeO.none _
   | refine LeO.ite ?_ ?_
   | refine LeO.bind ?_ (fun _ => ?_)
set_option maxHeartbeats 8000000 in
set_option maxRecDepth 100000 in
theorem impl_InGroup.calls (k : Nat) (a0_0 : Int) (a0_1 : Int) (a0_2 : Bool) (r : Bool) (w : World) (h : impl_InGroup.f k a0_0 a0_1 a0_2 = some r) :
  Calls Try.prog 51 #[.agg #[.int .i64 a0_0, .int .i64 a0_1, .bool a0_2]] w fun e w' => e = .returned (.bool r) ∧ Below w.heap.size w w' := by
 have hu25 := Try.underlying25
 have hfd25_0 : ∀ (x0 : Int) (x1 : Int) (x2 : Bool) (w_ : World), (Instr.field 25 (.agg #[.int .i64 x0, .int .i64 x1, .bool x2]) 0).run Try.prog w_ = .ok (.int .i64 x0) w_ := fun _ _ _ _ => by kernel_rfl
 have hfd25_1 : ∀ (x0 : Int) (x1 : Int) (x2 : Bool) (w_ : World), (Instr.field 25 (.agg #[.int .i64 x0, .int .i64 x1, .bool x2]) 1).run Try.prog w_ = .ok (.int .i64 x1) w_ := fun _ _ _ _ => by kernel_rfl
 have hfd25_2 : ∀ (x0 : Int) (x1 : Int) (x2 : Bool) (w_ : World), (Instr.field 25 (.agg #[.int .i64 x0, .int .i64 x1, .bool x2]) 2).run Try.prog w_ = .ok (.bool x2) w_ := fun _ _ _ _ => by kernel_rfl
 have HB := Aside0.mk (Below.refl w.heap.size w)
 have H : ((impl_PointOk.f a0_0 a0_1 a0_2).bind fun t383 => (if t383 = true then ((impl_PointTimes.f k 1009 a0_0 a0_1 a0_2).bind fun bt384 => (some bt384.2.2)) else (some false))) = some r := h
 clear h
 replace H := Option.bind_eq_some_iff.mp H
 obtain ⟨t383, A20, H⟩ := H
 replace H : (if t383 = true then ((impl_PointTimes.f k 1009 a0_0 a0_1 a0_2).bind fun bt384 => (some bt384.2.2)) else (some false)) = some r := H
 have A2 := Aside0.mk A20
 clear A20
 by_cases c3 : t383 = true
 ·subst c3
  have H1 : ((impl_PointTimes.f k 1009 a0_0 a0_1 a0_2).bind fun bt384 => (some bt384.2.2)) = some r := by rw [if_pos rfl] at H; exact H
  clear H
  have H := H1
  clear H1
  replace H := Option.bind_eq_some_iff.mp H
  obtain ⟨⟨t384, t385, t386⟩, A40, H⟩ := H
  replace H : (some t386) = some r := H
  have A4 := Aside0.mk A40
  clear A40
  obtain rfl := Option.some.inj H
  go_enter Try.func51, Try.ntmps51
  go_wp2_with (first | ((with_reducible refine gate_dst (N := 1) rfl ?_); refine box_event ?hg (N := 1) ?hd (cs := #[.int .i64 a0_0, .int .i64 a0_1, .bool a0_2]) (t := 25) ?hr ?_; (case hd => rfl); (case hg => rfl); (case hr => first | (go_simp; done) | (go_simp; rfl)); intro gb382 hg w5 hbox hb; have BK382 := Aside0.mk (hbox); have GW382 := bG HB hg; have GE382 := bG HB hg; replace HB := bS HB hb; clear hb hbox hg; have hcz6_0 : w5.cell? ⟨gb382, 0, none⟩ = some (.int .i64 a0_0) := bc BK382 0; have hcz6_1 : w5.cell? ⟨gb382, 1, none⟩ = some (.int .i64 a0_1) := bc BK382 1; have hcz6_2 : w5.cell? ⟨gb382, 2, none⟩ = some (.bool a0_2) := bc BK382 2; have hfz6_0 := blk_frozen BK382.out 0; have hfz6_1 := blk_frozen BK382.out 1; have hfz6_2 := blk_frozen BK382.out 2) | ((with_reducible refine gate_callee (f := 31) rfl ?_); refine goesL_ (some 4) rfl rfl Try.func31 (by kernel_rfl) rfl #[.agg #[.int .i64 a0_0, .int .i64 a0_1, .bool a0_2]] rfl (by (try simp only [List.map_toArray, List.map_cons, List.map_nil]); first | done | rfl | (simp only [List.length_drop, List.length_take]; rfl)) ?_; (with_reducible refine (impl_PointOk.calls a0_0 a0_1 a0_2 true _ A2.out).mono ?_); rintro e w7 ⟨rfl, hb⟩; refine ⟨_, rfl, ?_⟩; replace BK382 := bB BK382 hb; replace HB := bS HB hb; (try clear hb); (try clear hb2); (try clear hk); (try clear hi); have hcz8_0 : w7.cell? ⟨gb382, 0, none⟩ = some (.int .i64 a0_0) := bc BK382 0; have hcz8_1 : w7.cell? ⟨gb382, 1, none⟩ = some (.int .i64 a0_1) := bc BK382 1; have hcz8_2 : w7.cell? ⟨gb382, 2, none⟩ = some (.bool a0_2) := bc BK382 2; have hfz8_0 := blk_frozen BK382.out 0; have hfz8_1 := blk_frozen BK382.out 1; have hfz8_2 := blk_frozen BK382.out 2) | (go_at_call 18; (with_reducible refine (impl_PointTimes.calls k 1009 a0_0 a0_1 a0_2 t384 t385 t386 _ A4.out).mono ?_); rintro e w9 ⟨rfl, hb⟩; replace BK382 := bB BK382 hb; replace HB := bS HB hb; (try clear hb); (try clear hb2); (try clear hk); (try clear hi)))
  go_ret
  exact ⟨by first | rfl | (simp [errW_none, errW_some] <;> rfl) | (simp [*, errW_none, errW_some] <;> rfl), bZ HB⟩
 ·replace c3 := Bool.eq_false_iff.mpr c3
  subst c3
  have H1 : (some false) = some r := by rw [if_neg (show ¬ (false = true) by decide)] at H; exact H
  clear H
  have H := H1
  clear H1
  obtain rfl := Option.some.inj H
  go_enter Try.func51, Try.ntmps51
  go_wp2_with (first | ((with_reducible refine gate_dst (N := 1) rfl ?_); refine box_event ?hg (N := 1) ?hd (cs := #[.int .i64 a0_0, .int .i64 a0_1, .bool a0_2]) (t := 25) ?hr ?_; (case hd => rfl); (case hg => rfl); (case hr => first | (go_simp; done) | (go_simp; rfl)); intro gb382 hg w10 hbox hb; have BK382 := Aside0.mk (hbox); have GW382 := bG HB hg; have GE382 := bG HB hg; replace HB := bS HB hb; clear hb hbox hg; have hcz11_0 : w10.cell? ⟨gb382, 0, none⟩ = some (.int .i64 a0_0) := bc BK382 0; have hcz11_1 : w10.cell? ⟨gb382, 1, none⟩ = some (.int .i64 a0_1) := bc BK382 1; have hcz11_2 : w10.cell? ⟨gb382, 2, none⟩ = some (.bool a0_2) := bc BK382 2; have hfz11_0 := blk_frozen BK382.out 0; have hfz11_1 := blk_frozen BK382.out 1; have hfz11_2 := blk_frozen BK382.out 2) | ((with_reducible refine gate_callee (f := 31) rfl ?_); refine goesL_ (some 4) rfl rfl Try.func31 (by kernel_rfl) rfl #[.agg #[.int .i64 a0_0, .int .i64 a0_1, .bool a0_2]] rfl (by (try simp only [List.map_toArray, List.map_cons, List.map_nil]); first | done | rfl | (simp only [List.length_drop, List.length_take]; rfl)) ?_; (with_reducible refine (impl_PointOk.calls a0_0 a0_1 a0_2 false _ A2.out).mono ?_); rintro e w12 ⟨rfl, hb⟩; refine ⟨_, rfl, ?_⟩; replace BK382 := bB BK382 hb; replace HB := bS HB hb; (try clear hb); (try clear hb2); (try clear hk); (try clear hi)))
  go_ret
  exact ⟨by first | rfl | (simp [errW_none, errW_some] <;> rfl) | (simp [*, errW_none, errW_some] <;> rfl), bZ HB⟩
/-! ### impl_TwoTurn: function 63 -/
def impl_TwoTurn.f (a0_0 : Int) (a0_1 : Int) : Option (Int × Int) := (impl_FpOf.f a0_0).bind fun t389 => ((impl_FpSub.f 0 a0_1).bind fun t390 => (some (t389, t390)))
def impl_TwoTurn.T1 : Bool × List (List Nat × List Nat) := (true, [([], []), ([0], [0]), ([1], [1]), ([], []), ([3], [3]), ([4, 2], [4]), ([2, 5], [2, 5]), ([6, 5, 0, 1, 2, 3, 4, 5, 6], [6])])
def impl_TwoTurn.B1 : List Nat := [0, 1, 3, 0, 8, 31, 63, 127]
theorem impl_TwoTurn.tab1 : rtab .any (opsOf Try.f63 1) = impl_TwoTurn.T1 := by kernel_rfl
theorem impl_TwoTurn.bits1 : waitsOk impl_TwoTurn.T1.2 impl_TwoTurn.B1 = true := by kernel_rfl
set_option maxHeartbeats 8000000 in
set_option maxRecDepth 100000 in
theorem impl_TwoTurn.calls (a0_0 : Int) (a0_1 : Int) (r1 : Int) (r2 : Int) (w : World) (h : impl_TwoTurn.f a0_0 a0_1 = some (r1, r2)) :
  Calls Try.prog 63 #[.agg #[.int .i64 a0_0, .int .i64 a0_1]] w fun e w' => e = .returned (.agg #[.int .i64 r1, .int .i64 r2]) ∧ Below w.heap.size w w' := by
 have hu31 := Try.underlying31
 have HB := Aside0.mk (Below.refl w.heap.size w)
 have H : ((impl_FpOf.f a0_0).bind fun t389 => ((impl_FpSub.f 0 a0_1).bind fun t390 => (some (t389, t390)))) = some (r1, r2) := h
 clear h
 replace H := Option.bind_eq_some_iff.mp H
 obtain ⟨t389, A20, H⟩ := H
 replace H : ((impl_FpSub.f 0 a0_1).bind fun t390 => (some (t389, t390))) = some (r1, r2) := H
 have A2 := Aside0.mk A20
 clear A20
 replace H := Option.bind_eq_some_iff.mp H
 obtain ⟨t390, A30, H⟩ := H
 replace H : (some (t389, t390)) = some (r1, r2) := H
 have A3 := Aside0.mk A30
 clear A30
 simp only [Option.some.injEq, Prod.mk.injEq] at H
 obtain ⟨rfl, rfl⟩ := H
 go_enter Try.func63, Try.ntmps63
 try go_wp2_with (first | ((with_reducible refine gate_dst (N := 1) rfl ?_); refine box_event ?hg (N := 1) ?hd (cs := #[.int .i64 a0_0, .int .i64 a0_1]) (t := 31) ?hr ?_; (case hd => rfl); (case hg => rfl); (case hr => first | (go_simp; done) | (go_simp; rfl)); intro gb387 hg w4 hbox hb; have BK387 := Aside0.mk (hbox); have GW387 := bG HB hg; have GE387 := bG HB hg; replace HB := bS HB hb; clear hb hbox hg) | ((with_reducible refine gate_dst (N := 2) rfl ?_); refine box_event ?hg (N := 2) ?hd (cs := #[.int .i64 0, .int .i64 0]) (t := 31) ?hr ?_; (case hd => rfl); (case hg => rfl); (case hr => first | (go_simp; done) | (go_simp; rfl)); intro gb388 hg w5 hbox hb; have BK388 := Aside0.mk (hbox); have GW388 := bG HB hg; have GE388 := bG HB hg; replace HB := bS HB hb; have NB387_388 := bL BK387 hg; have NB388_387 := bR BK387 hg; replace BK387 := bB BK387 hb; clear hb hbox hg))
 replace BK387 := Aside0.mk (blk_drew BK387.out)
 replace BK388 := Aside0.mk (blk_drew BK388.out)
 replace HB := Aside0.mk (below_drew1 HB.out)
 refine start_ (n := 8) (S := fun w' => w'.cell? ⟨gb387, 0, none⟩ = some (.int .i64 a0_0) ∧ w'.cell? ⟨gb387, 1, none⟩ = some (.int .i64 a0_1)) (ds := []) #[false, false, false, false, false, false, false, false] (by kernel_rfl) rfl rfl ⟨bc BK387 0, bc BK387 1⟩ (fun hHeld => ?_); refine with_tabW impl_TwoTurn.tab1 impl_TwoTurn.bits1 (fun HT_ HW_ => ?_)
 generalize w5.drew = w6 at BK387 BK388 HB hHeld ⊢
 refine pure_ (i := 0) (N := some 3) (v := ?_) (a' := ?_) #[true, false, false, false, false, false, false, false] rfl rfl (any_of HT_.out (by kernel_rfl)) (fun _ _ _ h => h) (Or.inl ⟨by rfl, ?_⟩) ?_ ?_
 rotate_left
 ·intro w'
  go_simp
  with_reducible rfl
 rotate_left
 ·simp only [Act.put, List.setIfInBounds_toArray, List.set_cons_zero, List.set_cons_succ, i64_w, i32_w]
  rfl
 refine pure_ (i := 3) (N := some 6) (v := ?_) (a' := ?_) #[true, false, false, true, false, false, false, false] rfl rfl (any_of HT_.out (by kernel_rfl)) (fun _ _ _ h => h) (Or.inl ⟨by rfl, ?_⟩) ?_ ?_
 rotate_left
 ·intro w'
  go_simp
  with_reducible rfl
 rotate_left
 ·simp only [Act.put, List.setIfInBounds_toArray, List.set_cons_zero, List.set_cons_succ, i64_w, i32_w]
  rfl
 refine take_ (i := 1) (N := some 4) (v := ?_) (a' := ?_) #[true, true, false, true, false, false, false, false] rfl rfl (take_ofW HT_.out HW_.out (by kernel_rfl)) (fun _ _ _ h => h) (Or.inl ⟨by rfl, ?_⟩) hHeld ?_ ?_
 rotate_left
 ·rintro w' ⟨s0, s1⟩
  go_simp
  with_reducible rfl
 rotate_left
 ·simp only [Act.put, List.setIfInBounds_toArray, List.set_cons_zero, List.set_cons_succ, i64_w, i32_w]
  rfl
 refine take_ (i := 4) (N := some 7) (v := ?_) (a' := ?_) #[true, true, false, true, true, false, false, false] rfl rfl (take_ofW HT_.out HW_.out (by kernel_rfl)) (fun _ _ _ h => h) (Or.inl ⟨by rfl, ?_⟩) hHeld ?_ ?_
 rotate_left
 ·rintro w' ⟨s0, s1⟩
  go_simp
  with_reducible rfl
 rotate_left
 ·simp only [Act.put, List.setIfInBounds_toArray, List.set_cons_zero, List.set_cons_succ, i64_w, i32_w]
  rfl
 refine one_ (i := 2) (N := some 5) #[true, true, true, true, true, false, false, false] rfl rfl (one_of HT_.out (by kernel_rfl)) (by decide) (fun K hK => ?_)
 refine goes_ Try.func100 (by kernel_rfl) rfl #[.int .i64 a0_0] (by rfl) rfl rfl (by (try simp only [List.map_toArray, List.map_cons, List.map_nil]); first | done | rfl | (simp only [List.length_drop, List.length_take]; rfl)) ?_
 with_reducible refine (impl_FpOf.calls a0_0 t389 _ A2.out).mono ?_
 rintro e w' ⟨rfl, ⟨nd, rfl⟩⟩
 refine ⟨_, rfl, ?_⟩
 refine hK.out _ _ ⟨bc BK387 0, bc BK387 1⟩ (fun hHeld => ?_)
 clear hK K
 refine norm_ (a' := ?_) ?_ ?_
 rotate_left
 ·show Act.put _ (some 5) _ = _
  simp only [Act.put, List.setIfInBounds_toArray, List.set_cons_zero, List.set_cons_succ, i64_w, i32_w]
  rfl
 refine one_ (i := 5) (N := some 8) #[true, true, true, true, true, true, false, false] rfl rfl (one_of HT_.out (by kernel_rfl)) (by decide) (fun K hK => ?_)
 refine goes_ Try.func67 (by kernel_rfl) rfl #[.int .i64 0, .int .i64 a0_1] (by rfl) rfl rfl (by (try simp only [List.map_toArray, List.map_cons, List.map_nil]); first | done | rfl | (simp only [List.length_drop, List.length_take]; rfl)) ?_
 with_reducible refine (impl_FpSub.calls 0 a0_1 t390 _ A3.out).mono ?_
 rintro e w' ⟨rfl, ⟨nd, rfl⟩⟩
 refine ⟨_, rfl, ?_⟩
 refine hK.out _ _ ⟨bc BK387 0, bc BK387 1⟩ (fun hHeld => ?_)
 clear hK K
 refine norm_ (a' := ?_) ?_ ?_
 rotate_left
 ·show Act.put _ (some 8) _ = _
  simp only [Act.put, List.setIfInBounds_toArray, List.set_cons_zero, List.set_cons_succ, i64_w, i32_w]
  rfl
 refine pure_ (i := 6) (N := some 9) (v := ?_) (a' := ?_) #[true, true, true, true, true, true, true, false] rfl rfl (any_of HT_.out (by kernel_rfl)) (fun _ _ _ h => h) (Or.inl ⟨by rfl, ?_⟩) ?_ ?_
 rotate_left
 ·intro w'
  go_simp
  with_reducible rfl
 rotate_left
 ·simp only [Act.put, List.setIfInBounds_toArray, List.set_cons_zero, List.set_cons_succ, i64_w, i32_w]
  rfl
 refine one_ (i := 7) (N := none) #[true, true, true, true, true, true, true, true] rfl rfl (one_of HT_.out (by kernel_rfl)) (by decide) (fun K hK => ?_)
 have hs7 : w6.cell? ⟨gb388, 0, none⟩ = some (.int .i64 0) := bc BK388 0
 have hfs7 := blk_frozen BK388.out 0
 have hns7_0 := NB387_388.out
 have hms7_0 := NB388_387.out
 have hs8 : w6.cell? ⟨gb388, 1, none⟩ = some (.int .i64 0) := bc BK388 1
 have hfs8 := blk_frozen BK388.out 1
 have hns8_0 := NB387_388.out
 have hms8_0 := NB388_387.out
 refine skip_ (w1 := ?_) (by rfl) rfl ?_ ?_
 rotate_left
 ·go_simp
  rfl
 refine hK.out _ _ ⟨((cell_far (p := ⟨gb388, _, none⟩) NB387_388.out _).trans (((cell_far (p := ⟨gb388, _, none⟩) NB387_388.out _).trans (hHeld.1)))), ((cell_far (p := ⟨gb388, _, none⟩) NB387_388.out _).trans (((cell_far (p := ⟨gb388, _, none⟩) NB387_388.out _).trans (hHeld.2))))⟩ (fun hHeld => ?_)
 clear hK K
 refine done_ (done_of HT_.out (by kernel_rfl)) ?_
 try go_wp2
 refine bodyPost_ret (results_cell_row rfl _ _ gb388 31 #[.int .i64 t389, .int .i64 t390] (0, 0) _ rfl (by (with_reducible repeat (first | refine blk_drewN ?_ _ | refine blk_drew ?_ | refine blk_alloc ?_ _)); refine blk_put (cs := #[.int .i64 t389, .int .i64 0]) ?_ 1 _ rfl; (with_reducible repeat (first | refine blk_drewN ?_ _ | refine blk_drew ?_ | refine blk_alloc ?_ _)); refine blk_put (cs := #[.int .i64 0, .int .i64 0]) ?_ 0 _ rfl; (with_reducible repeat (first | refine blk_drewN ?_ _ | refine blk_drew ?_ | refine blk_alloc ?_ _)); exact BK388.out) Try.underlying31 rfl (by kernel_rfl)) rfl ?_
 exact ⟨by first | rfl | (simp [errW_none, errW_some] <;> rfl) | (simp [*, errW_none, errW_some] <;> rfl), bZ HB⟩
/-! ### impl_TwoInv: function 64 -/
def impl_TwoInv.f (k : Nat) (a0_0 : Int) (a0_1 : Int) : Option (Int × Int) := (impl_FpMul.f a0_0 a0_0).bind fun t393 => ((impl_FpMul.f a0_1 a0_1).bind fun t394 => ((impl_FpAdd.f t393 t394).bind fun t395 => ((impl_FpInv.f k t395).bind fun t396 => ((impl_FpMul.f a0_0 t396).bind fun t397 => ((impl_FpSub.f 0 a0_1).bind fun t398 => ((impl_FpMul.f t398 t396).bind fun t399 => (some (t397, t399))))))))
theorem impl_TwoInv.mono : ∀ a0 a1 k, LeO (impl_TwoInv.f k a0 a1) (impl_TwoInv.f (k + 1) a0 a1) := by
 intro a0 a1 k
 unfold impl_TwoInv.f
 repeat' first
   | (with_reducible exact impl_FpInv.mono _ _)
   | (with_reducible exact LeO.refl _)
   | (with_reducible exact LeO.none _)
   | (with_reducible refine LeO.ite ?_ ?_)
   | (with_reducible refine LeO.bind ?_ (fun _ => ?_))
   | exact impl_FpInv.mono _ _
   | exact LeO.none _
   | refine LeO.ite ?_ ?_
   | refine LeO.bind ?_ (fun _ => ?_)
def impl_TwoInv.T1 : Bool × List (List Nat × List Nat) := (true, [([], []), ([0], [0]), ([], []), ([2], [2]), ([1, 3], [1, 3]), ([], []), ([5], [5]), ([], []), ([7], [7]), ([6, 8, 4], [6, 8]), ([4, 9, 9], [4, 9]), ([10, 10], [10]), ([11, 11, 0, 1, 2, 3, 4, 5, 6, 7, 8, 9, 10, 11], [11])])
def impl_TwoInv.B1 : List Nat := [0, 1, 0, 4, 15, 0, 32, 0, 128, 511, 1023, 2047, 4095]
theorem impl_TwoInv.tab1 : rtab .any (opsOf Try.f64 1) = impl_TwoInv.T1 := by kernel_rfl
theorem impl_TwoInv.bits1 : waitsOk impl_TwoInv.T1.2 impl_TwoInv.B1 = true := by kernel_rfl
def impl_TwoInv.T2 : Bool × List (List Nat × List Nat) := (true, [([], []), ([0], [0]), ([], []), ([1, 2], [1, 2]), ([], []), ([4], [4]), ([5, 3], [5]), ([], []), ([6, 7, 6], [6, 7]), ([3, 8], [3, 8]), ([9, 8, 0, 1, 2, 3, 4, 5, 6, 7, 8, 9], [9])])
def impl_TwoInv.B2 : List Nat := [0, 1, 0, 7, 0, 16, 63, 0, 255, 511, 1023]
theorem impl_TwoInv.tab2 : rtab .any (opsOf Try.f64 2) = impl_TwoInv.T2 := by kernel_rfl
theorem impl_TwoInv.bits2 : waitsOk impl_TwoInv.T2.2 impl_TwoInv.B2 = true := by kernel_rfl
set_option maxHeartbeats 8000000 in
set_option maxRecDepth 100000 in
theorem impl_TwoInv.calls (k : Nat) (a0_0 : Int) (a0_1 : Int) (r1 : Int) (r2 : Int) (w : World) (h : impl_TwoInv.f k a0_0 a0_1 = some (r1, r2)) :
  Calls Try.prog 64 #[.agg #[.int .i64 a0_0, .int .i64 a0_1]] w fun e w' => e = .returned (.agg #[.int .i64 r1, .int .i64 r2]) ∧ Below w.heap.size w w' := by
 have hu31 := Try.underlying31
 have HB := Aside0.mk (Below.refl w.heap.size w)
 have H : ((impl_FpMul.f a0_0 a0_0).bind fun t393 => ((impl_FpMul.f a0_1 a0_1).bind fun t394 => ((impl_FpAdd.f t393 t394).bind fun t395 => ((impl_FpInv.f k t395).bind fun t396 => ((impl_FpMul.f a0_0 t396).bind fun t397 => ((impl_FpSub.f 0 a0_1).bind fun t398 => ((impl_FpMul.f t398 t396).bind fun t399 => (some (t397, t399))))))))) = some (r1, r2) := h
 clear h
 replace H := Option.bind_eq_some_iff.mp H
 obtain ⟨t393, A20, H⟩ := H
 replace H : ((impl_FpMul.f a0_1 a0_1).bind fun t394 => ((impl_FpAdd.f t393 t394).bind fun t395 => ((impl_FpInv.f k t395).bind fun t396 => ((impl_FpMul.f a0_0 t396).bind fun t397 => ((impl_FpSub.f 0 a0_1).bind fun t398 => ((impl_FpMul.f t398 t396).bind fun t399 => (some (t397, t399)))))))) = some (r1, r2) := H
 have A2 := Aside0.mk A20
 clear A20
 replace H := Option.bind_eq_some_iff.mp H
 obtain ⟨t394, A30, H⟩ := H
 replace H : ((impl_FpAdd.f t393 t394).bind fun t395 => ((impl_FpInv.f k t395).bind fun t396 => ((impl_FpMul.f a0_0 t396).bind fun t397 => ((impl_FpSub.f 0 a0_1).bind fun t398 => ((impl_FpMul.f t398 t396).bind fun t399 => (some (t397, t399))))))) = some (r1, r2) := H
 have A3 := Aside0.mk A30
 clear A30
 replace H := Option.bind_eq_some_iff.mp H
 obtain ⟨t395, A40, H⟩ := H
 replace H : ((impl_FpInv.f k t395).bind fun t396 => ((impl_FpMul.f a0_0 t396).bind fun t397 => ((impl_FpSub.f 0 a0_1).bind fun t398 => ((impl_FpMul.f t398 t396).bind fun t399 => (some (t397, t399)))))) = some (r1, r2) := H
 have A4 := Aside0.mk A40
 clear A40
 replace H := Option.bind_eq_some_iff.mp H
 obtain ⟨t396, A50, H⟩ := H
 replace H : ((impl_FpMul.f a0_0 t396).bind fun t397 => ((impl_FpSub.f 0 a0_1).bind fun t398 => ((impl_FpMul.f t398 t396).bind fun t399 => (some (t397, t399))))) = some (r1, r2) := H
 have A5 := Aside0.mk A50
 clear A50
 replace H := Option.bind_eq_some_iff.mp H
 obtain ⟨t397, A60, H⟩ := H
 replace H : ((impl_FpSub.f 0 a0_1).bind fun t398 => ((impl_FpMul.f t398 t396).bind fun t399 => (some (t397, t399)))) = some (r1, r2) := H
 have A6 := Aside0.mk A60
 clear A60
 replace H := Option.bind_eq_some_iff.mp H
 obtain ⟨t398, A70, H⟩ := H
 replace H : ((impl_FpMul.f t398 t396).bind fun t399 => (some (t397, t399))) = some (r1, r2) := H
 have A7 := Aside0.mk A70
 clear A70
 replace H := Option.bind_eq_some_iff.mp H
 obtain ⟨t399, A80, H⟩ := H
 replace H : (some (t397, t399)) = some (r1, r2) := H
 have A8 := Aside0.mk A80
 clear A80
 simp only [Option.some.injEq, Prod.mk.injEq] at H
 obtain ⟨rfl, rfl⟩ := H
 go_enter Try.func64, Try.ntmps64
 try go_wp2_with (first | ((with_reducible refine gate_dst (N := 1) rfl ?_); refine box_event ?hg (N := 1) ?hd (cs := #[.int .i64 a0_0, .int .i64 a0_1]) (t := 31) ?hr ?_; (case hd => rfl); (case hg => rfl); (case hr => first | (go_simp; done) | (go_simp; rfl)); intro gb391 hg w9 hbox hb; have BK391 := Aside0.mk (hbox); have GW391 := bG HB hg; have GE391 := bG HB hg; replace HB := bS HB hb; clear hb hbox hg) | ((with_reducible refine gate_dst (N := 2) rfl ?_); refine box_event ?hg (N := 2) ?hd (cs := #[.int .i64 0, .int .i64 0]) (t := 31) ?hr ?_; (case hd => rfl); (case hg => rfl); (case hr => first | (go_simp; done) | (go_simp; rfl)); intro gb392 hg w10 hbox hb; have BK392 := Aside0.mk (hbox); have GW392 := bG HB hg; have GE392 := bG HB hg; replace HB := bS HB hb; have NB391_392 := bL BK391 hg; have NB392_391 := bR BK391 hg; replace BK391 := bB BK391 hb; clear hb hbox hg))
 replace BK391 := Aside0.mk (blk_drew BK391.out)
 replace BK392 := Aside0.mk (blk_drew BK392.out)
 replace HB := Aside0.mk (below_drew1 HB.out)
 refine start_ (n := 13) (S := fun w' => w'.cell? ⟨gb391, 0, none⟩ = some (.int .i64 a0_0) ∧ w'.cell? ⟨gb391, 1, none⟩ = some (.int .i64 a0_1)) (ds := []) #[false, false, false, false, false, false, false, false, false, false, false, false, false] (by kernel_rfl) rfl rfl ⟨bc BK391 0, bc BK391 1⟩ (fun hHeld => ?_); refine with_tabW impl_TwoInv.tab1 impl_TwoInv.bits1 (fun HT_ HW_ => ?_)
 generalize w10.drew = w11 at BK391 BK392 HB hHeld ⊢
 refine pure_ (i := 0) (N := some 4) (v := ?_) (a' := ?_) #[true, false, false, false, false, false, false, false, false, false, false, false, false] rfl rfl (any_of HT_.out (by kernel_rfl)) (fun _ _ _ h => h) (Or.inl ⟨by rfl, ?_⟩) ?_ ?_
 rotate_left
 ·intro w'
  go_simp
  with_reducible rfl
 rotate_left
 ·simp only [Act.put, List.setIfInBounds_toArray, List.set_cons_zero, List.set_cons_succ, i64_w, i32_w]
  rfl
 refine pure_ (i := 2) (N := some 6) (v := ?_) (a' := ?_) #[true, false, true, false, false, false, false, false, false, false, false, false, false] rfl rfl (any_of HT_.out (by kernel_rfl)) (fun _ _ _ h => h) (Or.inl ⟨by rfl, ?_⟩) ?_ ?_
 rotate_left
 ·intro w'
  go_simp
  with_reducible rfl
 rotate_left
 ·simp only [Act.put, List.setIfInBounds_toArray, List.set_cons_zero, List.set_cons_succ, i64_w, i32_w]
  rfl
 refine pure_ (i := 5) (N := some 9) (v := ?_) (a' := ?_) #[true, false, true, false, false, true, false, false, false, false, false, false, false] rfl rfl (any_of HT_.out (by kernel_rfl)) (fun _ _ _ h => h) (Or.inl ⟨by rfl, ?_⟩) ?_ ?_
 rotate_left
 ·intro w'
  go_simp
  with_reducible rfl
 rotate_left
 ·simp only [Act.put, List.setIfInBounds_toArray, List.set_cons_zero, List.set_cons_succ, i64_w, i32_w]
  rfl
 refine pure_ (i := 7) (N := some 11) (v := ?_) (a' := ?_) #[true, false, true, false, false, true, false, true, false, false, false, false, false] rfl rfl (any_of HT_.out (by kernel_rfl)) (fun _ _ _ h => h) (Or.inl ⟨by rfl, ?_⟩) ?_ ?_
 rotate_left
 ·intro w'
  go_simp
  with_reducible rfl
 rotate_left
 ·simp only [Act.put, List.setIfInBounds_toArray, List.set_cons_zero, List.set_cons_succ, i64_w, i32_w]
  rfl
 refine take_ (i := 1) (N := some 5) (v := ?_) (a' := ?_) #[true, true, true, false, false, true, false, true, false, false, false, false, false] rfl rfl (take_ofW HT_.out HW_.out (by kernel_rfl)) (fun _ _ _ h => h) (Or.inl ⟨by rfl, ?_⟩) hHeld ?_ ?_
 rotate_left
 ·rintro w' ⟨s0, s1⟩
  go_simp
  with_reducible rfl
 rotate_left
 ·simp only [Act.put, List.setIfInBounds_toArray, List.set_cons_zero, List.set_cons_succ, i64_w, i32_w]
  rfl
 refine take_ (i := 3) (N := some 7) (v := ?_) (a' := ?_) #[true, true, true, true, false, true, false, true, false, false, false, false, false] rfl rfl (take_ofW HT_.out HW_.out (by kernel_rfl)) (fun _ _ _ h => h) (Or.inl ⟨by rfl, ?_⟩) hHeld ?_ ?_
 rotate_left
 ·rintro w' ⟨s0, s1⟩
  go_simp
  with_reducible rfl
 rotate_left
 ·simp only [Act.put, List.setIfInBounds_toArray, List.set_cons_zero, List.set_cons_succ, i64_w, i32_w]
  rfl
 refine take_ (i := 6) (N := some 10) (v := ?_) (a' := ?_) #[true, true, true, true, false, true, true, true, false, false, false, false, false] rfl rfl (take_ofW HT_.out HW_.out (by kernel_rfl)) (fun _ _ _ h => h) (Or.inl ⟨by rfl, ?_⟩) hHeld ?_ ?_
 rotate_left
 ·rintro w' ⟨s0, s1⟩
  go_simp
  with_reducible rfl
 rotate_left
 ·simp only [Act.put, List.setIfInBounds_toArray, List.set_cons_zero, List.set_cons_succ, i64_w, i32_w]
  rfl
 refine take_ (i := 8) (N := some 12) (v := ?_) (a' := ?_) #[true, true, true, true, false, true, true, true, true, false, false, false, false] rfl rfl (take_ofW HT_.out HW_.out (by kernel_rfl)) (fun _ _ _ h => h) (Or.inl ⟨by rfl, ?_⟩) hHeld ?_ ?_
 rotate_left
 ·rintro w' ⟨s0, s1⟩
  go_simp
  with_reducible rfl
 rotate_left
 ·simp only [Act.put, List.setIfInBounds_toArray, List.set_cons_zero, List.set_cons_succ, i64_w, i32_w]
  rfl
 refine one_ (i := 4) (N := some 8) #[true, true, true, true, true, true, true, true, true, false, false, false, false] rfl rfl (one_of HT_.out (by kernel_rfl)) (by decide) (fun K hK => ?_)
 refine goes_ Try.func68 (by kernel_rfl) rfl #[.int .i64 a0_0, .int .i64 a0_0] (by rfl) rfl rfl (by (try simp only [List.map_toArray, List.map_cons, List.map_nil]); first | done | rfl | (simp only [List.length_drop, List.length_take]; rfl)) ?_
 with_reducible refine (impl_FpMul.calls a0_0 a0_0 t393 _ A2.out).mono ?_
 rintro e w' ⟨rfl, ⟨nd, rfl⟩⟩
 refine ⟨_, rfl, ?_⟩
 refine hK.out _ _ ⟨bc BK391 0, bc BK391 1⟩ (fun hHeld => ?_)
 clear hK K
 refine norm_ (a' := ?_) ?_ ?_
 rotate_left
 ·show Act.put _ (some 8) _ = _
  simp only [Act.put, List.setIfInBounds_toArray, List.set_cons_zero, List.set_cons_succ, i64_w, i32_w]
  rfl
 refine one_ (i := 9) (N := some 13) #[true, true, true, true, true, true, true, true, true, true, false, false, false] rfl rfl (one_of HT_.out (by kernel_rfl)) (by decide) (fun K hK => ?_)
 refine goes_ Try.func68 (by kernel_rfl) rfl #[.int .i64 a0_1, .int .i64 a0_1] (by rfl) rfl rfl (by (try simp only [List.map_toArray, List.map_cons, List.map_nil]); first | done | rfl | (simp only [List.length_drop, List.length_take]; rfl)) ?_
 with_reducible refine (impl_FpMul.calls a0_1 a0_1 t394 _ A3.out).mono ?_
 rintro e w' ⟨rfl, ⟨nd, rfl⟩⟩
 refine ⟨_, rfl, ?_⟩
 refine hK.out _ _ ⟨bc BK391 0, bc BK391 1⟩ (fun hHeld => ?_)
 clear hK K
 refine norm_ (a' := ?_) ?_ ?_
 rotate_left
 ·show Act.put _ (some 13) _ = _
  simp only [Act.put, List.setIfInBounds_toArray, List.set_cons_zero, List.set_cons_succ, i64_w, i32_w]
  rfl
 refine one_ (i := 10) (N := some 14) #[true, true, true, true, true, true, true, true, true, true, true, false, false] rfl rfl (one_of HT_.out (by kernel_rfl)) (by decide) (fun K hK => ?_)
 refine goes_ Try.func69 (by kernel_rfl) rfl #[.int .i64 t393, .int .i64 t394] (by rfl) rfl rfl (by (try simp only [List.map_toArray, List.map_cons, List.map_nil]); first | done | rfl | (simp only [List.length_drop, List.length_take]; rfl)) ?_
 with_reducible refine (impl_FpAdd.calls t393 t394 t395 _ A4.out).mono ?_
 rintro e w' ⟨rfl, ⟨nd, rfl⟩⟩
 refine ⟨_, rfl, ?_⟩
 refine hK.out _ _ ⟨bc BK391 0, bc BK391 1⟩ (fun hHeld => ?_)
 clear hK K
 refine norm_ (a' := ?_) ?_ ?_
 rotate_left
 ·show Act.put _ (some 14) _ = _
  simp only [Act.put, List.setIfInBounds_toArray, List.set_cons_zero, List.set_cons_succ, i64_w, i32_w]
  rfl
 refine one_ (i := 11) (N := some 15) #[true, true, true, true, true, true, true, true, true, true, true, true, false] rfl rfl (one_of HT_.out (by kernel_rfl)) (by decide) (fun K hK => ?_)
 refine goes_ Try.func101 (by kernel_rfl) rfl #[.int .i64 t395] (by rfl) rfl rfl (by (try simp only [List.map_toArray, List.map_cons, List.map_nil]); first | done | rfl | (simp only [List.length_drop, List.length_take]; rfl)) ?_
 with_reducible refine (impl_FpInv.calls k t395 t396 _ A5.out).mono ?_
 rintro e w' ⟨rfl, ⟨nd, rfl⟩⟩
 refine ⟨_, rfl, ?_⟩
 refine hK.out _ _ ⟨bc BK391 0, bc BK391 1⟩ (fun hHeld => ?_)
 clear hK K
 refine norm_ (a' := ?_) ?_ ?_
 rotate_left
 ·show Act.put _ (some 15) _ = _
  simp only [Act.put, List.setIfInBounds_toArray, List.set_cons_zero, List.set_cons_succ, i64_w, i32_w]
  rfl
 refine pure_ (i := 12) (N := some 3) (v := ?_) (a' := ?_) #[true, true, true, true, true, true, true, true, true, true, true, true, true] rfl rfl (any_of HT_.out (by kernel_rfl)) (fun _ _ _ h => h) (Or.inl ⟨by rfl, ?_⟩) ?_ ?_
 rotate_left
 ·intro w'
  go_simp
  with_reducible rfl
 rotate_left
 ·simp only [Act.put, List.setIfInBounds_toArray, List.set_cons_zero, List.set_cons_succ, i64_w, i32_w]
  rfl
 refine done_ (done_of HT_.out (by kernel_rfl)) ?_
 try go_wp2
 (try simp only [World.drewN_drewN]); (try (rw [drewN_self w11]; generalize hq_ : World.drewN w11 _ = w11; replace BK391 : Aside0 (w11.heap[gb391]? = some (.cells #[.int .i64 a0_0, .int .i64 a0_1] 31 (0, 0))) := ⟨by rw [← hq_]; exact (bP BK391)⟩; replace BK392 : Aside0 (w11.heap[gb392]? = some (.cells #[.int .i64 0, .int .i64 0] 31 (0, 0))) := ⟨by rw [← hq_]; exact (bP BK392)⟩; replace HB : Aside0 (Below w.heap.size w w11) := ⟨by rw [← hq_]; exact (bZ HB)⟩; clear hq_))
 replace BK391 := Aside0.mk (blk_drew BK391.out)
 replace BK392 := Aside0.mk (blk_drew BK392.out)
 replace HB := Aside0.mk (below_drew1 HB.out)
 refine start_ (n := 11) (S := fun w' => w'.cell? ⟨gb391, 0, none⟩ = some (.int .i64 a0_0) ∧ w'.cell? ⟨gb391, 1, none⟩ = some (.int .i64 a0_1)) (ds := []) #[false, false, false, false, false, false, false, false, false, false, false] (by kernel_rfl) rfl rfl ⟨bc BK391 0, bc BK391 1⟩ (fun hHeld => ?_); refine with_tabW impl_TwoInv.tab2 impl_TwoInv.bits2 (fun HT_ HW_ => ?_)
 generalize w11.drew = w12 at BK391 BK392 HB hHeld ⊢
 refine pure_ (i := 0) (N := some 16) (v := ?_) (a' := ?_) #[true, false, false, false, false, false, false, false, false, false, false] rfl rfl (any_of HT_.out (by kernel_rfl)) (fun _ _ _ h => h) (Or.inl ⟨by rfl, ?_⟩) ?_ ?_
 rotate_left
 ·intro w'
  go_simp
  with_reducible rfl
 rotate_left
 ·simp only [Act.put, List.setIfInBounds_toArray, List.set_cons_zero, List.set_cons_succ, i64_w, i32_w]
  rfl
 refine pure_ (i := 2) (N := some 18) (v := ?_) (a' := ?_) #[true, false, true, false, false, false, false, false, false, false, false] rfl rfl (any_of HT_.out (by kernel_rfl)) (fun _ _ _ h => h) (Or.inl ⟨by rfl, ?_⟩) ?_ ?_
 rotate_left
 ·intro w'
  go_simp
  with_reducible rfl
 rotate_left
 ·simp only [Act.put, List.setIfInBounds_toArray, List.set_cons_zero, List.set_cons_succ, i64_w, i32_w]
  rfl
 refine pure_ (i := 4) (N := some 20) (v := ?_) (a' := ?_) #[true, false, true, false, true, false, false, false, false, false, false] rfl rfl (any_of HT_.out (by kernel_rfl)) (fun _ _ _ h => h) (Or.inl ⟨by rfl, ?_⟩) ?_ ?_
 rotate_left
 ·intro w'
  go_simp
  with_reducible rfl
 rotate_left
 ·simp only [Act.put, List.setIfInBounds_toArray, List.set_cons_zero, List.set_cons_succ, i64_w, i32_w]
  rfl
 refine pure_ (i := 7) (N := some 23) (v := ?_) (a' := ?_) #[true, false, true, false, true, false, false, true, false, false, false] rfl rfl (any_of HT_.out (by kernel_rfl)) (fun _ _ _ h => h) (Or.inl ⟨by rfl, ?_⟩) ?_ ?_
 rotate_left
 ·intro w'
  go_simp
  with_reducible rfl
 rotate_left
 ·simp only [Act.put, List.setIfInBounds_toArray, List.set_cons_zero, List.set_cons_succ, i64_w, i32_w]
  rfl
 refine take_ (i := 1) (N := some 17) (v := ?_) (a' := ?_) #[true, true, true, false, true, false, false, true, false, false, false] rfl rfl (take_ofW HT_.out HW_.out (by kernel_rfl)) (fun _ _ _ h => h) (Or.inl ⟨by rfl, ?_⟩) hHeld ?_ ?_
 rotate_left
 ·rintro w' ⟨s0, s1⟩
  go_simp
  with_reducible rfl
 rotate_left
 ·simp only [Act.put, List.setIfInBounds_toArray, List.set_cons_zero, List.set_cons_succ, i64_w, i32_w]
  rfl
 refine take_ (i := 5) (N := some 21) (v := ?_) (a' := ?_) #[true, true, true, false, true, true, false, true, false, false, false] rfl rfl (take_ofW HT_.out HW_.out (by kernel_rfl)) (fun _ _ _ h => h) (Or.inl ⟨by rfl, ?_⟩) hHeld ?_ ?_
 rotate_left
 ·rintro w' ⟨s0, s1⟩
  go_simp
  with_reducible rfl
 rotate_left
 ·simp only [Act.put, List.setIfInBounds_toArray, List.set_cons_zero, List.set_cons_succ, i64_w, i32_w]
  rfl
 refine one_ (i := 3) (N := some 19) #[true, true, true, true, true, true, false, true, false, false, false] rfl rfl (one_of HT_.out (by kernel_rfl)) (by decide) (fun K hK => ?_)
 refine goes_ Try.func68 (by kernel_rfl) rfl #[.int .i64 a0_0, .int .i64 t396] (by rfl) rfl rfl (by (try simp only [List.map_toArray, List.map_cons, List.map_nil]); first | done | rfl | (simp only [List.length_drop, List.length_take]; rfl)) ?_
 with_reducible refine (impl_FpMul.calls a0_0 t396 t397 _ A6.out).mono ?_
 rintro e w' ⟨rfl, ⟨nd, rfl⟩⟩
 refine ⟨_, rfl, ?_⟩
 refine hK.out _ _ ⟨bc BK391 0, bc BK391 1⟩ (fun hHeld => ?_)
 clear hK K
 refine norm_ (a' := ?_) ?_ ?_
 rotate_left
 ·show Act.put _ (some 19) _ = _
  simp only [Act.put, List.setIfInBounds_toArray, List.set_cons_zero, List.set_cons_succ, i64_w, i32_w]
  rfl
 refine one_ (i := 6) (N := some 22) #[true, true, true, true, true, true, true, true, false, false, false] rfl rfl (one_of HT_.out (by kernel_rfl)) (by decide) (fun K hK => ?_)
 refine goes_ Try.func67 (by kernel_rfl) rfl #[.int .i64 0, .int .i64 a0_1] (by rfl) rfl rfl (by (try simp only [List.map_toArray, List.map_cons, List.map_nil]); first | done | rfl | (simp only [List.length_drop, List.length_take]; rfl)) ?_
 with_reducible refine (impl_FpSub.calls 0 a0_1 t398 _ A7.out).mono ?_
 rintro e w' ⟨rfl, ⟨nd, rfl⟩⟩
 refine ⟨_, rfl, ?_⟩
 refine hK.out _ _ ⟨bc BK391 0, bc BK391 1⟩ (fun hHeld => ?_)
 clear hK K
 refine norm_ (a' := ?_) ?_ ?_
 rotate_left
 ·show Act.put _ (some 22) _ = _
  simp only [Act.put, List.setIfInBounds_toArray, List.set_cons_zero, List.set_cons_succ, i64_w, i32_w]
  rfl
 refine one_ (i := 8) (N := some 24) #[true, true, true, true, true, true, true, true, true, false, false] rfl rfl (one_of HT_.out (by kernel_rfl)) (by decide) (fun K hK => ?_)
 refine goes_ Try.func68 (by kernel_rfl) rfl #[.int .i64 t398, .int .i64 t396] (by rfl) rfl rfl (by (try simp only [List.map_toArray, List.map_cons, List.map_nil]); first | done | rfl | (simp only [List.length_drop, List.length_take]; rfl)) ?_
 with_reducible refine (impl_FpMul.calls t398 t396 t399 _ A8.out).mono ?_
 rintro e w' ⟨rfl, ⟨nd, rfl⟩⟩
 refine ⟨_, rfl, ?_⟩
 refine hK.out _ _ ⟨bc BK391 0, bc BK391 1⟩ (fun hHeld => ?_)
 clear hK K
 refine norm_ (a' := ?_) ?_ ?_
 rotate_left
 ·show Act.put _ (some 24) _ = _
  simp only [Act.put, List.setIfInBounds_toArray, List.set_cons_zero, List.set_cons_succ, i64_w, i32_w]
  rfl
 refine pure_ (i := 9) (N := some 25) (v := ?_) (a' := ?_) #[true, true, true, true, true, true, true, true, true, true, false] rfl rfl (any_of HT_.out (by kernel_rfl)) (fun _ _ _ h => h) (Or.inl ⟨by rfl, ?_⟩) ?_ ?_
 rotate_left
 ·intro w'
  go_simp
  with_reducible rfl
 rotate_left
 ·simp only [Act.put, List.setIfInBounds_toArray, List.set_cons_zero, List.set_cons_succ, i64_w, i32_w]
  rfl
 refine one_ (i := 10) (N := none) #[true, true, true, true, true, true, true, true, true, true, true] rfl rfl (one_of HT_.out (by kernel_rfl)) (by decide) (fun K hK => ?_)
 have hs13 : w12.cell? ⟨gb392, 0, none⟩ = some (.int .i64 0) := bc BK392 0
 have hfs13 := blk_frozen BK392.out 0
 have hns13_0 := NB391_392.out
 have hms13_0 := NB392_391.out
 have hs14 : w12.cell? ⟨gb392, 1, none⟩ = some (.int .i64 0) := bc BK392 1
 have hfs14 := blk_frozen BK392.out 1
 have hns14_0 := NB391_392.out
 have hms14_0 := NB392_391.out
 refine skip_ (w1 := ?_) (by rfl) rfl ?_ ?_
 rotate_left
 ·go_simp
  rfl
 refine hK.out _ _ ⟨((cell_far (p := ⟨gb392, _, none⟩) NB391_392.out _).trans (((cell_far (p := ⟨gb392, _, none⟩) NB391_392.out _).trans (hHeld.1)))), ((cell_far (p := ⟨gb392, _, none⟩) NB391_392.out _).trans (((cell_far (p := ⟨gb392, _, none⟩) NB391_392.out _).trans (hHeld.2))))⟩ (fun hHeld => ?_)
 clear hK K
 refine done_ (done_of HT_.out (by kernel_rfl)) ?_
 try go_wp2
 refine bodyPost_ret (results_cell_row rfl _ _ gb392 31 #[.int .i64 t397, .int .i64 t399] (0, 0) _ rfl (by (with_reducible repeat (first | refine blk_drewN ?_ _ | refine blk_drew ?_ | refine blk_alloc ?_ _)); refine blk_put (cs := #[.int .i64 t397, .int .i64 0]) ?_ 1 _ rfl; (with_reducible repeat (first | refine blk_drewN ?_ _ | refine blk_drew ?_ | refine blk_alloc ?_ _)); refine blk_put (cs := #[.int .i64 0, .int .i64 0]) ?_ 0 _ rfl; (with_reducible repeat (first | refine blk_drewN ?_ _ | refine blk_drew ?_ | refine blk_alloc ?_ _)); exact BK392.out) Try.underlying31 rfl (by kernel_rfl)) rfl ?_
 exact ⟨by first | rfl | (simp [errW_none, errW_some] <;> rfl) | (simp [*, errW_none, errW_some] <;> rfl), bZ HB⟩
/-! ### impl_Pairing: function 17 -/
def impl_Pairing.j0 : Nat → Bool → Int → Int → Bool → Int → Int → Bool → Option (Int × Int)
 | 0, _, _, _, _, _, _, _ => none
 | k + 1, x21, x401000, x401001, x401002, x402000, x402001, x402002 => if x21 = true then (some (1, 0)) else ((impl_Miller.f k x401000 x401001 x401002 x402000 x402001 x402002).bind fun bt405 => ((impl_TwoTurn.f bt405.1 bt405.2).bind fun bt408 => ((impl_TwoInv.f k bt405.1 bt405.2).bind fun bt410 => ((impl_TwoMul.f bt408.1 bt408.2 bt410.1 bt410.2).bind fun bt412 => ((impl_TwoPow.f k bt412.1 bt412.2 12).bind fun bt414 => (some (bt414.1, bt414.2)))))))
def impl_Pairing.f (k : Nat) (a0_0 : Int) (a0_1 : Int) (a0_2 : Bool) (a1_0 : Int) (a1_1 : Int) (a1_2 : Bool) : Option (Int × Int) := if a0_2 = true then (impl_Pairing.j0 k true a0_0 a0_1 a0_2 a1_0 a1_1 a1_2) else (if a1_2 = true then (impl_Pairing.j0 k true a0_0 a0_1 a0_2 a1_0 a1_1 a1_2) else ((impl_InGroup.f k a0_0 a0_1 a0_2).bind fun t403 => (if t403 = true then ((impl_InGroup.f k a1_0 a1_1 a1_2).bind fun t404 => (impl_Pairing.j0 k (!t404) a0_0 a0_1 a0_2 a1_0 a1_1 a1_2)) else (impl_Pairing.j0 k true a0_0 a0_1 a0_2 a1_0 a1_1 a1_2))))
theorem impl_Pairing.mono_l : ∀ k, (∀ y0 y1 y2 y3 y4 y5 y6, LeO (impl_Pairing.j0 k y0 y1 y2 y3 y4 y5 y6) (impl_Pairing.j0 (k + 1) y0 y1 y2 y3 y4 y5 y6))
 | 0 => fun _ _ _ _ _ _ _ r h => by simp [impl_Pairing.j0] at h
 | k + 1 => by
  have ih0 := impl_Pairing.mono_l k
  ·intro y0 y1 y2 y3 y4 y5 y6
   unfold impl_Pairing.j0
   repeat' first
   | (with_reducible exact ih0 _ _ _ _ _ _ _)
   | (with_reducible exact impl_InGroup.mono _ _ _ _)
   | (with_reducible exact impl_Miller.mono _ _ _ _ _ _ _)
   | (with_reducible exact impl_TwoInv.mono _ _ _)
   | (with_reducible exact impl_TwoPow.mono _ _ _ _)
   | (with_reducible exact LeO.refl _)
   | (with_reducible exact LeO.none _)
   | (with_reducible refine LeO.ite ?_ ?_)
   | (with_reducible refine LeO.bind ?_ (fun _ => ?_))
   | exact ih0 _ _ _ _ _ _ _
   | exact impl_InGroup.mono _ _ _ _
   | exact impl_Miller.mono _ _ _ _ _ _ _
   | exact impl_TwoInv.mono _ _ _
   | exact impl_TwoPow.mono _ _ _ _
   | exact LeO.none _
   | refine LeO.ite ?_ ?_
   | refine LeO.bind ?_ (fun _ => ?_)
theorem impl_Pairing.mono : ∀ a0 a1 a2 a3 a4 a5 k, LeO (impl_Pairing.f k a0 a1 a2 a3 a4 a5) (impl_Pairing.f (k + 1) a0 a1 a2 a3 a4 a5) := by
 intro a0 a1 a2 a3 a4 a5 k
 have ih0 := impl_Pairing.mono_l k
 unfold impl_Pairing.f
 repeat' first
   | (with_reducible exact ih0 _ _ _ _ _ _ _)
   | (with_reducible exact impl_InGroup.mono _ _ _ _)
   | (with_reducible exact impl_Miller.mono _ _ _ _ _ _ _)
   | (with_reducible exact impl_TwoInv.mono _ _ _)
   | (with_reducible exact impl_TwoPow.mono _ _ _ _)
   | (with_reducible exact LeO.refl _)
   | (with_reducible exact LeO.none _)
   | (with_reducible refine LeO.ite ?_ ?_)
   | (with_reducible refine LeO.bind ?_ (fun _ => ?_))
   | exact ih0 _ _ _ _ _ _ _
   | exact impl_InGroup.mono _ _ _ _
   | exact impl_Miller.mono _ _ _ _ _ _ _
   | exact impl_TwoInv.mono _ _ _
   | exact impl_TwoPow.mono _ _ _ _
   | exact LeO.none _
   | refine LeO.ite ?_ ?_
   | refine LeO.bind ?_ (fun _ => ?_)
set_option maxHeartbeats 8000000 in
set_option maxRecDepth 100000 in
theorem impl_Pairing.calls (k : Nat) (a0_0 : Int) (a0_1 : Int) (a0_2 : Bool) (a1_0 : Int) (a1_1 : Int) (a1_2 : Bool) (r1 : Int) (r2 : Int) (w : World) (h : impl_Pairing.f k a0_0 a0_1 a0_2 a1_0 a1_1 a1_2 = some (r1, r2)) :
  Calls Try.prog 17 #[.agg #[.int .i64 a0_0, .int .i64 a0_1, .bool a0_2], .agg #[.int .i64 a1_0, .int .i64 a1_1, .bool a1_2]] w fun e w' => e = .returned (.agg #[.int .i64 r1, .int .i64 r2]) ∧ Below w.heap.size w w' := by
 have hu25 := Try.underlying25
 have hu31 := Try.underlying31
 have HB := Aside0.mk (Below.refl w.heap.size w)
 have H : (if a0_2 = true then (impl_Pairing.j0 k true a0_0 a0_1 a0_2 a1_0 a1_1 a1_2) else (if a1_2 = true then (impl_Pairing.j0 k true a0_0 a0_1 a0_2 a1_0 a1_1 a1_2) else ((impl_InGroup.f k a0_0 a0_1 a0_2).bind fun t403 => (if t403 = true then ((impl_InGroup.f k a1_0 a1_1 a1_2).bind fun t404 => (impl_Pairing.j0 k (!t404) a0_0 a0_1 a0_2 a1_0 a1_1 a1_2)) else (impl_Pairing.j0 k true a0_0 a0_1 a0_2 a1_0 a1_1 a1_2))))) = some (r1, r2) := h
 clear h
 have HC3 := Aside0.mk H
 clear H
 go_enter Try.func17, Try.ntmps17
 go_upto_region 1 with (first | ((with_reducible refine gate_dst (N := 2) rfl ?_); refine box_event ?hg (N := 2) ?hd (cs := #[.int .i64 a0_0, .int .i64 a0_1, .bool a0_2]) (t := 25) ?hr ?_; (case hd => rfl); (case hg => rfl); (case hr => first | (go_simp; done) | (go_simp; rfl)); intro gb400 hg w4 hbox hb; have BK400 := Aside0.mk (hbox); have GW400 := bG HB hg; have GE400 := bG HB hg; replace HB := bS HB hb; clear hb hbox hg) | ((with_reducible refine gate_dst (N := 3) rfl ?_); refine box_event ?hg (N := 3) ?hd (cs := #[.int .i64 a1_0, .int .i64 a1_1, .bool a1_2]) (t := 25) ?hr ?_; (case hd => rfl); (case hg => rfl); (case hr => first | (go_simp; done) | (go_simp; rfl)); intro gb401 hg w5 hbox hb; have BK401 := Aside0.mk (hbox); have GW401 := bG HB hg; have GE401 := bG HB hg; replace HB := bS HB hb; have NB400_401 := bL BK400 hg; have NB401_400 := bR BK400 hg; replace BK400 := bB BK400 hb; clear hb hbox hg) | ((with_reducible refine gate_dst (N := 4) rfl ?_); refine box_event ?hg (N := 4) ?hd (cs := #[.int .i64 0, .int .i64 0]) (t := 31) ?hr ?_; (case hd => rfl); (case hg => rfl); (case hr => first | (go_simp; done) | (go_simp; rfl)); intro gb402 hg w6 hbox hb; have BK402 := Aside0.mk (hbox); have GW402 := bG HB hg; have GE402 := bG HB hg; replace HB := bS HB hb; have NB400_402 := bL BK400 hg; have NB402_400 := bR BK400 hg; replace BK400 := bB BK400 hb; have NB401_402 := bL BK401 hg; have NB402_401 := bR BK401 hg; replace BK401 := bB BK401 hb; clear hb hbox hg))
 (try simp only [Act.put, List.setIfInBounds_toArray, List.set_cons_zero, List.set_cons_succ])
 go_cut [21] (fun v21 wc => ∃ (kq : Nat) (x21_2 : Bool), v21 = .bool x21_2 ∧ Aside0 (impl_Pairing.j0 kq x21_2 a0_0 a0_1 a0_2 a1_0 a1_1 a1_2 = some (r1, r2)) ∧ Aside0 (kq ≤ k) ∧ Aside0 (wc.heap[gb400]? = some (.cells #[.int .i64 a0_0, .int .i64 a0_1, .bool a0_2] 25 (0, 0))) ∧ Aside0 (wc.heap[gb401]? = some (.cells #[.int .i64 a1_0, .int .i64 a1_1, .bool a1_2] 25 (0, 0))) ∧ Aside0 (wc.heap[gb402]? = some (.cells #[.int .i64 0, .int .i64 0] 31 (0, 0))) ∧ Aside0 (Below w.heap.size w wc))
 case first =>
  have H := HC3.out
  clear HC3
  by_cases c7 : a0_2 = true
  ·subst c7
   have H1 : (impl_Pairing.j0 k true a0_0 a0_1 true a1_0 a1_1 a1_2) = some (r1, r2) := by rw [if_pos rfl] at H; exact H
   clear H
   have H := H1
   clear H1
   have H' := Aside0.mk H
   clear H
   have hnb8 := NB400_401.out
   have hnc8 := NB401_400.out
   have hnb9 := NB400_402.out
   have hnc9 := NB402_400.out
   have hcz10_0 : w6.cell? ⟨gb400, 0, none⟩ = some (.int .i64 a0_0) := bc BK400 0
   have hcz10_1 : w6.cell? ⟨gb400, 1, none⟩ = some (.int .i64 a0_1) := bc BK400 1
   have hcz10_2 : w6.cell? ⟨gb400, 2, none⟩ = some (.bool true) := bc BK400 2
   have hfz10_0 := blk_frozen BK400.out 0
   have hfz10_1 := blk_frozen BK400.out 1
   have hfz10_2 := blk_frozen BK400.out 2
   go_wp2
   go_meet
   case rel => exact ⟨_, (true), (by first | rfl | (simp; done) | (simp [*]; done)), H', ⟨by first | omega | exact Nat.le_refl _⟩, ⟨bP BK400⟩, ⟨bP BK401⟩, ⟨bP BK402⟩, ⟨bZ HB⟩⟩
  ·replace c7 := Bool.eq_false_iff.mpr c7
   subst c7
   have H1 : (if a1_2 = true then (impl_Pairing.j0 k true a0_0 a0_1 false a1_0 a1_1 a1_2) else ((impl_InGroup.f k a0_0 a0_1 false).bind fun t403 => (if t403 = true then ((impl_InGroup.f k a1_0 a1_1 a1_2).bind fun t404 => (impl_Pairing.j0 k (!t404) a0_0 a0_1 false a1_0 a1_1 a1_2)) else (impl_Pairing.j0 k true a0_0 a0_1 false a1_0 a1_1 a1_2)))) = some (r1, r2) := by rw [if_neg (show ¬ (false = true) by decide)] at H; exact H
   clear H
   have H := H1
   clear H1
   by_cases c11 : a1_2 = true
   ·subst c11
    have H1 : (impl_Pairing.j0 k true a0_0 a0_1 false a1_0 a1_1 true) = some (r1, r2) := by rw [if_pos rfl] at H; exact H
    clear H
    have H := H1
    clear H1
    have H' := Aside0.mk H
    clear H
    have hnb12 := NB400_401.out
    have hnc12 := NB401_400.out
    have hnb13 := NB400_402.out
    have hnc13 := NB402_400.out
    have hcz14_0 : w6.cell? ⟨gb400, 0, none⟩ = some (.int .i64 a0_0) := bc BK400 0
    have hcz14_1 : w6.cell? ⟨gb400, 1, none⟩ = some (.int .i64 a0_1) := bc BK400 1
    have hcz14_2 : w6.cell? ⟨gb400, 2, none⟩ = some (.bool false) := bc BK400 2
    have hfz14_0 := blk_frozen BK400.out 0
    have hfz14_1 := blk_frozen BK400.out 1
    have hfz14_2 := blk_frozen BK400.out 2
    have hnb15 := NB401_402.out
    have hnc15 := NB402_401.out
    have hcz16_0 : w6.cell? ⟨gb401, 0, none⟩ = some (.int .i64 a1_0) := bc BK401 0
    have hcz16_1 : w6.cell? ⟨gb401, 1, none⟩ = some (.int .i64 a1_1) := bc BK401 1
    have hcz16_2 : w6.cell? ⟨gb401, 2, none⟩ = some (.bool true) := bc BK401 2
    have hfz16_0 := blk_frozen BK401.out 0
    have hfz16_1 := blk_frozen BK401.out 1
    have hfz16_2 := blk_frozen BK401.out 2
    go_wp2
    go_meet
    case rel => exact ⟨_, (true), (by first | rfl | (simp; done) | (simp [*]; done)), H', ⟨by first | omega | exact Nat.le_refl _⟩, ⟨bP BK400⟩, ⟨bP BK401⟩, ⟨bP BK402⟩, ⟨bZ HB⟩⟩
   ·replace c11 := Bool.eq_false_iff.mpr c11
    subst c11
    have H1 : ((impl_InGroup.f k a0_0 a0_1 false).bind fun t403 => (if t403 = true then ((impl_InGroup.f k a1_0 a1_1 false).bind fun t404 => (impl_Pairing.j0 k (!t404) a0_0 a0_1 false a1_0 a1_1 false)) else (impl_Pairing.j0 k true a0_0 a0_1 false a1_0 a1_1 false))) = some (r1, r2) := by rw [if_neg (show ¬ (false = true) by decide)] at H; exact H
    clear H
    have H := H1
    clear H1
    replace H := Option.bind_eq_some_iff.mp H
    obtain ⟨t403, A170, H⟩ := H
    replace H : (if t403 = true then ((impl_InGroup.f k a1_0 a1_1 false).bind fun t404 => (impl_Pairing.j0 k (!t404) a0_0 a0_1 false a1_0 a1_1 false)) else (impl_Pairing.j0 k true a0_0 a0_1 false a1_0 a1_1 false)) = some (r1, r2) := H
    have A17 := Aside0.mk A170
    clear A170
    by_cases c18 : t403 = true
    ·subst c18
     have H1 : ((impl_InGroup.f k a1_0 a1_1 false).bind fun t404 => (impl_Pairing.j0 k (!t404) a0_0 a0_1 false a1_0 a1_1 false)) = some (r1, r2) := by rw [if_pos rfl] at H; exact H
     clear H
     have H := H1
     clear H1
     replace H := Option.bind_eq_some_iff.mp H
     obtain ⟨t404, A190, H⟩ := H
     replace H : (impl_Pairing.j0 k (!t404) a0_0 a0_1 false a1_0 a1_1 false) = some (r1, r2) := H
     have A19 := Aside0.mk A190
     clear A190
     have H' := Aside0.mk H
     clear H
     have hnb20 := NB400_401.out
     have hnc20 := NB401_400.out
     have hnb21 := NB400_402.out
     have hnc21 := NB402_400.out
     have hcz22_0 : w6.cell? ⟨gb400, 0, none⟩ = some (.int .i64 a0_0) := bc BK400 0
     have hcz22_1 : w6.cell? ⟨gb400, 1, none⟩ = some (.int .i64 a0_1) := bc BK400 1
     have hcz22_2 : w6.cell? ⟨gb400, 2, none⟩ = some (.bool false) := bc BK400 2
     have hfz22_0 := blk_frozen BK400.out 0
     have hfz22_1 := blk_frozen BK400.out 1
     have hfz22_2 := blk_frozen BK400.out 2
     have hnb23 := NB401_402.out
     have hnc23 := NB402_401.out
     have hcz24_0 : w6.cell? ⟨gb401, 0, none⟩ = some (.int .i64 a1_0) := bc BK401 0
     have hcz24_1 : w6.cell? ⟨gb401, 1, none⟩ = some (.int .i64 a1_1) := bc BK401 1
     have hcz24_2 : w6.cell? ⟨gb401, 2, none⟩ = some (.bool false) := bc BK401 2
     have hfz24_0 := blk_frozen BK401.out 0
     have hfz24_1 := blk_frozen BK401.out 1
     have hfz24_2 := blk_frozen BK401.out 2
     go_wp2_with (first | (go_at_call 51; (with_reducible refine (impl_InGroup.calls k a0_0 a0_1 false true _ A17.out).mono ?_); rintro e w25 ⟨rfl, hb⟩; replace BK400 := bB BK400 hb; replace BK401 := bB BK401 hb; replace BK402 := bB BK402 hb; replace HB := bS HB hb; (try clear hb); (try clear hb2); (try clear hk); (try clear hi); have hcz26_0 : w25.cell? ⟨gb401, 0, none⟩ = some (.int .i64 a1_0) := bc BK401 0; have hcz26_1 : w25.cell? ⟨gb401, 1, none⟩ = some (.int .i64 a1_1) := bc BK401 1; have hcz26_2 : w25.cell? ⟨gb401, 2, none⟩ = some (.bool false) := bc BK401 2; have hfz26_0 := blk_frozen BK401.out 0; have hfz26_1 := blk_frozen BK401.out 1; have hfz26_2 := blk_frozen BK401.out 2) | (go_at_call 51; (with_reducible refine (impl_InGroup.calls k a1_0 a1_1 false t404 _ A19.out).mono ?_); rintro e w27 ⟨rfl, hb⟩; replace BK400 := bB BK400 hb; replace BK401 := bB BK401 hb; replace BK402 := bB BK402 hb; replace HB := bS HB hb; (try clear hb); (try clear hb2); (try clear hk); (try clear hi)))
     go_meet
     case rel => exact ⟨_, (!t404), (by first | rfl | (simp; done) | (simp [*]; done)), H', ⟨by first | omega | exact Nat.le_refl _⟩, ⟨bP BK400⟩, ⟨bP BK401⟩, ⟨bP BK402⟩, ⟨bZ HB⟩⟩
    ·replace c18 := Bool.eq_false_iff.mpr c18
     subst c18
     have H1 : (impl_Pairing.j0 k true a0_0 a0_1 false a1_0 a1_1 false) = some (r1, r2) := by rw [if_neg (show ¬ (false = true) by decide)] at H; exact H
     clear H
     have H := H1
     clear H1
     have H' := Aside0.mk H
     clear H
     have hnb28 := NB400_401.out
     have hnc28 := NB401_400.out
     have hnb29 := NB400_402.out
     have hnc29 := NB402_400.out
     have hcz30_0 : w6.cell? ⟨gb400, 0, none⟩ = some (.int .i64 a0_0) := bc BK400 0
     have hcz30_1 : w6.cell? ⟨gb400, 1, none⟩ = some (.int .i64 a0_1) := bc BK400 1
     have hcz30_2 : w6.cell? ⟨gb400, 2, none⟩ = some (.bool false) := bc BK400 2
     have hfz30_0 := blk_frozen BK400.out 0
     have hfz30_1 := blk_frozen BK400.out 1
     have hfz30_2 := blk_frozen BK400.out 2
     have hnb31 := NB401_402.out
     have hnc31 := NB402_401.out
     have hcz32_0 : w6.cell? ⟨gb401, 0, none⟩ = some (.int .i64 a1_0) := bc BK401 0
     have hcz32_1 : w6.cell? ⟨gb401, 1, none⟩ = some (.int .i64 a1_1) := bc BK401 1
     have hcz32_2 : w6.cell? ⟨gb401, 2, none⟩ = some (.bool false) := bc BK401 2
     have hfz32_0 := blk_frozen BK401.out 0
     have hfz32_1 := blk_frozen BK401.out 1
     have hfz32_2 := blk_frozen BK401.out 2
     go_wp2_with (first | (go_at_call 51; (with_reducible refine (impl_InGroup.calls k a0_0 a0_1 false false _ A17.out).mono ?_); rintro e w33 ⟨rfl, hb⟩; replace BK400 := bB BK400 hb; replace BK401 := bB BK401 hb; replace BK402 := bB BK402 hb; replace HB := bS HB hb; (try clear hb); (try clear hb2); (try clear hk); (try clear hi)))
     go_meet
     case rel => exact ⟨_, (true), (by first | rfl | (simp; done) | (simp [*]; done)), H', ⟨by first | omega | exact Nat.le_refl _⟩, ⟨bP BK400⟩, ⟨bP BK401⟩, ⟨bP BK402⟩, ⟨bZ HB⟩⟩
 case rest =>
  clear HC3
  try clear c1
  try clear c2
  try clear p2
  try clear c3
  try clear c7
  try clear c8
  try clear c9
  try clear c11
  try clear c12
  try clear c13
  try clear c15
  try clear c17
  try clear c18
  try clear c20
  try clear c21
  try clear c23
  try clear c28
  try clear c29
  try clear c31
  try clear hcz10_0
  try clear hcz10_1
  try clear hcz10_2
  try clear hcz14_0
  try clear hcz14_1
  try clear hcz14_2
  try clear hcz16_0
  try clear hcz16_1
  try clear hcz16_2
  try clear hcz22_0
  try clear hcz22_1
  try clear hcz22_2
  try clear hcz24_0
  try clear hcz24_1
  try clear hcz24_2
  try clear hcz26_0
  try clear hcz26_1
  try clear hcz26_2
  try clear hcz30_0
  try clear hcz30_1
  try clear hcz30_2
  try clear hcz32_0
  try clear hcz32_1
  try clear hcz32_2
  try clear hfz10_0
  try clear hfz10_1
  try clear hfz10_2
  try clear hfz14_0
  try clear hfz14_1
  try clear hfz14_2
  try clear hfz16_0
  try clear hfz16_1
  try clear hfz16_2
  try clear hfz22_0
  try clear hfz22_1
  try clear hfz22_2
  try clear hfz24_0
  try clear hfz24_1
  try clear hfz24_2
  try clear hfz26_0
  try clear hfz26_1
  try clear hfz26_2
  try clear hfz30_0
  try clear hfz30_1
  try clear hfz30_2
  try clear hfz32_0
  try clear hfz32_1
  try clear hfz32_2
  obtain ⟨kq, x21_2, rfl, HA, HJ2, BK400, BK401, BK402, HB⟩ := hcut
  cases kq with
  | zero => exact absurd HA.out (by simp [impl_Pairing.j0])
  | succ kj2 =>
   have H := HA.out
   clear HA
   simp only [impl_Pairing.j0] at H
   by_cases c34 : x21_2 = true
   ·subst c34
    have H1 : (some (1, 0)) = some (r1, r2) := by rw [if_pos rfl] at H; exact H
    clear H
    have H := H1
    clear H1
    simp only [Option.some.injEq, Prod.mk.injEq] at H
    obtain ⟨rfl, rfl⟩ := H
    have hnb35 := NB402_400.out
    have hnc35 := NB400_402.out
    have hnb36 := NB402_401.out
    have hnc36 := NB401_402.out
    have hcz37_0 : wc.cell? ⟨gb402, 0, none⟩ = some (.int .i64 0) := bc BK402 0
    have hcz37_1 : wc.cell? ⟨gb402, 1, none⟩ = some (.int .i64 0) := bc BK402 1
    have hfz37_0 := blk_frozen BK402.out 0
    have hfz37_1 := blk_frozen BK402.out 1
    go_wp2
    refine bodyPost_ret (results_cell_row rfl _ _ gb402 31 #[.int .i64 1, .int .i64 0] (0, 0) _ rfl (by (with_reducible repeat (first | refine blk_drewN ?_ _ | refine blk_drew ?_ | refine blk_alloc ?_ _)); refine blk_put (cs := #[.int .i64 1, .int .i64 0]) ?_ 1 _ rfl; (with_reducible repeat (first | refine blk_drewN ?_ _ | refine blk_drew ?_ | refine blk_alloc ?_ _)); refine blk_put (cs := #[.int .i64 0, .int .i64 0]) ?_ 0 _ rfl; (with_reducible repeat (first | refine blk_drewN ?_ _ | refine blk_drew ?_ | refine blk_alloc ?_ _)); exact BK402.out) Try.underlying31 rfl (by kernel_rfl)) rfl ?_
    exact ⟨by first | rfl | (simp [errW_none, errW_some] <;> rfl) | (simp [*, errW_none, errW_some] <;> rfl), bZ HB⟩
   ·replace c34 := Bool.eq_false_iff.mpr c34
    subst c34
    have H1 : ((impl_Miller.f kj2 a0_0 a0_1 a0_2 a1_0 a1_1 a1_2).bind fun bt405 => ((impl_TwoTurn.f bt405.1 bt405.2).bind fun bt408 => ((impl_TwoInv.f kj2 bt405.1 bt405.2).bind fun bt410 => ((impl_TwoMul.f bt408.1 bt408.2 bt410.1 bt410.2).bind fun bt412 => ((impl_TwoPow.f kj2 bt412.1 bt412.2 12).bind fun bt414 => (some (bt414.1, bt414.2))))))) = some (r1, r2) := by rw [if_neg (show ¬ (false = true) by decide)] at H; exact H
    clear H
    have H := H1
    clear H1
    replace H := Option.bind_eq_some_iff.mp H
    obtain ⟨⟨t405, t406⟩, A380, H⟩ := H
    replace H : ((impl_TwoTurn.f t405 t406).bind fun bt408 => ((impl_TwoInv.f kj2 t405 t406).bind fun bt410 => ((impl_TwoMul.f bt408.1 bt408.2 bt410.1 bt410.2).bind fun bt412 => ((impl_TwoPow.f kj2 bt412.1 bt412.2 12).bind fun bt414 => (some (bt414.1, bt414.2)))))) = some (r1, r2) := H
    have A38 := Aside0.mk A380
    clear A380
    replace H := Option.bind_eq_some_iff.mp H
    obtain ⟨⟨t408, t409⟩, A390, H⟩ := H
    replace H : ((impl_TwoInv.f kj2 t405 t406).bind fun bt410 => ((impl_TwoMul.f t408 t409 bt410.1 bt410.2).bind fun bt412 => ((impl_TwoPow.f kj2 bt412.1 bt412.2 12).bind fun bt414 => (some (bt414.1, bt414.2))))) = some (r1, r2) := H
    have A39 := Aside0.mk A390
    clear A390
    replace H := Option.bind_eq_some_iff.mp H
    obtain ⟨⟨t410, t411⟩, A400, H⟩ := H
    replace H : ((impl_TwoMul.f t408 t409 t410 t411).bind fun bt412 => ((impl_TwoPow.f kj2 bt412.1 bt412.2 12).bind fun bt414 => (some (bt414.1, bt414.2)))) = some (r1, r2) := H
    have A40 := Aside0.mk A400
    clear A400
    replace H := Option.bind_eq_some_iff.mp H
    obtain ⟨⟨t412, t413⟩, A410, H⟩ := H
    replace H : ((impl_TwoPow.f kj2 t412 t413 12).bind fun bt414 => (some (bt414.1, bt414.2))) = some (r1, r2) := H
    have A41 := Aside0.mk A410
    clear A410
    replace H := Option.bind_eq_some_iff.mp H
    obtain ⟨⟨t414, t415⟩, A420, H⟩ := H
    replace H : (some (t414, t415)) = some (r1, r2) := H
    have A42 := Aside0.mk A420
    clear A420
    simp only [Option.some.injEq, Prod.mk.injEq] at H
    obtain ⟨rfl, rfl⟩ := H
    have hnb43 := NB400_401.out
    have hnc43 := NB401_400.out
    have hnb44 := NB400_402.out
    have hnc44 := NB402_400.out
    have hcz45_0 : wc.cell? ⟨gb400, 0, none⟩ = some (.int .i64 a0_0) := bc BK400 0
    have hcz45_1 : wc.cell? ⟨gb400, 1, none⟩ = some (.int .i64 a0_1) := bc BK400 1
    have hcz45_2 : wc.cell? ⟨gb400, 2, none⟩ = some (.bool a0_2) := bc BK400 2
    have hfz45_0 := blk_frozen BK400.out 0
    have hfz45_1 := blk_frozen BK400.out 1
    have hfz45_2 := blk_frozen BK400.out 2
    have hnb46 := NB401_402.out
    have hnc46 := NB402_401.out
    have hcz47_0 : wc.cell? ⟨gb401, 0, none⟩ = some (.int .i64 a1_0) := bc BK401 0
    have hcz47_1 : wc.cell? ⟨gb401, 1, none⟩ = some (.int .i64 a1_1) := bc BK401 1
    have hcz47_2 : wc.cell? ⟨gb401, 2, none⟩ = some (.bool a1_2) := bc BK401 2
    have hfz47_0 := blk_frozen BK401.out 0
    have hfz47_1 := blk_frozen BK401.out 1
    have hfz47_2 := blk_frozen BK401.out 2
    try go_wp2_with (first | ((with_reducible refine gate_callee (f := 40) rfl ?_); refine goesL_ (some 25) rfl rfl Try.func40 (by kernel_rfl) rfl #[.agg #[.int .i64 a0_0, .int .i64 a0_1, .bool a0_2], .agg #[.int .i64 a1_0, .int .i64 a1_1, .bool a1_2]] rfl (by (try simp only [List.map_toArray, List.map_cons, List.map_nil]); first | done | rfl | (simp only [List.length_drop, List.length_take]; rfl)) ?_; (with_reducible refine (impl_Miller.calls kj2 a0_0 a0_1 a0_2 a1_0 a1_1 a1_2 t405 t406 _ A38.out).mono ?_); rintro e w48 ⟨rfl, hb⟩; refine ⟨_, rfl, ?_⟩; replace BK400 := bB BK400 hb; replace BK401 := bB BK401 hb; replace BK402 := bB BK402 hb; replace HB := bS HB hb; (try clear hb); (try clear hb2); (try clear hk); (try clear hi)) | ((with_reducible refine gate_dst (N := 5) rfl ?_); refine box_event ?hg (N := 5) ?hd (cs := #[.int .i64 0, .int .i64 0]) (t := 31) ?hr ?_; (case hd => rfl); (case hg => rfl); (case hr => first | (go_simp; done) | (go_simp; rfl)); intro gb407 hg w49 hbox hb; have BK407 := Aside0.mk (hbox); have GW407 := bG HB hg; have GE407 := bG HB hg; replace HB := bS HB hb; have NB400_407 := bL BK400 hg; have NB407_400 := bR BK400 hg; replace BK400 := bB BK400 hb; have NB401_407 := bL BK401 hg; have NB407_401 := bR BK401 hg; replace BK401 := bB BK401 hb; have NB402_407 := bL BK402 hg; have NB407_402 := bR BK402 hg; replace BK402 := bB BK402 hb; clear hb hbox hg; have hnb50 := NB407_400.out; have hnc50 := NB400_407.out; have hnb51 := NB407_401.out; have hnc51 := NB401_407.out; have hnb52 := NB407_402.out; have hnc52 := NB402_407.out; have hcz53_0 : w49.cell? ⟨gb407, 0, none⟩ = some (.int .i64 0) := bc BK407 0; have hcz53_1 : w49.cell? ⟨gb407, 1, none⟩ = some (.int .i64 0) := bc BK407 1; have hfz53_0 := blk_frozen BK407.out 0; have hfz53_1 := blk_frozen BK407.out 1))
    have n0_ : Aside0 (((w49.setCell ⟨gb407, 0, none⟩ (.int .i64 t405)).setCell ⟨gb407, 1, none⟩ (.int .i64 t406)).heap[gb400]? = some (.cells #[.int .i64 a0_0, .int .i64 a0_1, .bool a0_2] 25 (0, 0))) := ⟨bP BK400⟩
    have n1_ : Aside0 (((w49.setCell ⟨gb407, 0, none⟩ (.int .i64 t405)).setCell ⟨gb407, 1, none⟩ (.int .i64 t406)).heap[gb401]? = some (.cells #[.int .i64 a1_0, .int .i64 a1_1, .bool a1_2] 25 (0, 0))) := ⟨bP BK401⟩
    have n2_ : Aside0 (((w49.setCell ⟨gb407, 0, none⟩ (.int .i64 t405)).setCell ⟨gb407, 1, none⟩ (.int .i64 t406)).heap[gb402]? = some (.cells #[.int .i64 0, .int .i64 0] 31 (0, 0))) := ⟨bP BK402⟩
    have n3_ : Aside0 (((w49.setCell ⟨gb407, 0, none⟩ (.int .i64 t405)).setCell ⟨gb407, 1, none⟩ (.int .i64 t406)).heap[gb407]? = some (.cells #[.int .i64 t405, .int .i64 t406] 31 (0, 0))) := ⟨by (with_reducible repeat (first | refine blk_drewN ?_ _ | refine blk_drew ?_ | refine blk_alloc ?_ _)); refine blk_put (cs := #[.int .i64 t405, .int .i64 0]) ?_ 1 _ rfl; (with_reducible repeat (first | refine blk_drewN ?_ _ | refine blk_drew ?_ | refine blk_alloc ?_ _)); refine blk_put (cs := #[.int .i64 0, .int .i64 0]) ?_ 0 _ rfl; (with_reducible repeat (first | refine blk_drewN ?_ _ | refine blk_drew ?_ | refine blk_alloc ?_ _)); exact BK407.out⟩
    have n4_ : Aside0 (Below w.heap.size w ((w49.setCell ⟨gb407, 0, none⟩ (.int .i64 t405)).setCell ⟨gb407, 1, none⟩ (.int .i64 t406))) := ⟨bZ HB⟩
    (try clear BK400)
    (try clear BK401)
    (try clear BK402)
    (try clear BK407)
    (try clear HB)
    generalize ((w49.setCell ⟨gb407, 0, none⟩ (.int .i64 t405)).setCell ⟨gb407, 1, none⟩ (.int .i64 t406)) = w54 at n0_ n1_ n2_ n3_ n4_ ⊢
    have BK400 := n0_
    have BK401 := n1_
    have BK402 := n2_
    have BK407 := n3_
    have HB := n4_
    clear n0_ n1_ n2_ n3_ n4_
    replace BK400 := Aside0.mk (blk_drew BK400.out)
    replace BK401 := Aside0.mk (blk_drew BK401.out)
    replace BK402 := Aside0.mk (blk_drew BK402.out)
    replace BK407 := Aside0.mk (blk_drew BK407.out)
    replace HB := Aside0.mk (below_drew1 HB.out)
    refine start_ (n := 7) (S := fun w' => w'.cell? ⟨gb407, 0, none⟩ = some (.int .i64 t405) ∧ w'.cell? ⟨gb407, 1, none⟩ = some (.int .i64 t406)) (ds := []) #[false, false, false, false, false, false, false] (by kernel_rfl) rfl rfl ⟨bc BK407 0, bc BK407 1⟩ (fun hHeld => ?_)
    generalize w54.drew = w55 at BK400 BK401 BK402 BK407 HB hHeld ⊢
    refine take_ (i := 0) (N := some 26) (v := ?_) (a' := ?_) #[true, false, false, false, false, false, false] rfl rfl (by kernel_rfl) (fun _ _ _ h => h) (Or.inl ⟨by rfl, ?_⟩) hHeld ?_ ?_
    rotate_left
    ·rintro w' ⟨s0, s1⟩
     go_simp
     with_reducible rfl
    rotate_left
    ·simp only [Act.put, List.setIfInBounds_toArray, List.set_cons_zero, List.set_cons_succ, i64_w, i32_w]
     rfl
    refine take_ (i := 2) (N := some 28) (v := ?_) (a' := ?_) #[true, false, true, false, false, false, false] rfl rfl (by kernel_rfl) (fun _ _ _ h => h) (Or.inl ⟨by rfl, ?_⟩) hHeld ?_ ?_
    rotate_left
    ·rintro w' ⟨s0, s1⟩
     go_simp
     with_reducible rfl
    rotate_left
    ·simp only [Act.put, List.setIfInBounds_toArray, List.set_cons_zero, List.set_cons_succ, i64_w, i32_w]
     rfl
    refine one_ (i := 1) (N := some 27) #[true, true, true, false, false, false, false] rfl rfl (by kernel_rfl) (by decide) (fun K hK => ?_)
    refine goes_ Try.func63 (by kernel_rfl) rfl #[.agg #[.int .i64 t405, .int .i64 t406]] (by rfl) rfl rfl (by (try simp only [List.map_toArray, List.map_cons, List.map_nil]); first | done | rfl | (simp only [List.length_drop, List.length_take]; rfl)) ?_
    with_reducible refine (impl_TwoTurn.calls t405 t406 t408 t409 _ A39.out).mono ?_
    rintro e w56 ⟨rfl, hb⟩
    refine ⟨_, rfl, ?_⟩
    replace BK400 := bB BK400 hb
    replace BK401 := bB BK401 hb
    replace BK402 := bB BK402 hb
    replace BK407 := bB BK407 hb
    replace HB := bS HB hb
    (try clear hb)
    (try clear hb2)
    (try clear hk)
    (try clear hi)
    refine hK.out _ _ ⟨bc BK407 0, bc BK407 1⟩ (fun hHeld => ?_)
    clear hK K
    refine norm_ (a' := ?_) ?_ ?_
    rotate_left
    ·show Act.put _ (some 27) _ = _
     simp only [Act.put, List.setIfInBounds_toArray, List.set_cons_zero, List.set_cons_succ, i64_w, i32_w]
     rfl
    refine one_ (i := 3) (N := some 29) #[true, true, true, true, false, false, false] rfl rfl (by kernel_rfl) (by decide) (fun K hK => ?_)
    refine goes_ Try.func64 (by kernel_rfl) rfl #[.agg #[.int .i64 t405, .int .i64 t406]] (by rfl) rfl rfl (by (try simp only [List.map_toArray, List.map_cons, List.map_nil]); first | done | rfl | (simp only [List.length_drop, List.length_take]; rfl)) ?_
    with_reducible refine (impl_TwoInv.calls kj2 t405 t406 t410 t411 _ A40.out).mono ?_
    rintro e w57 ⟨rfl, hb⟩
    refine ⟨_, rfl, ?_⟩
    replace BK400 := bB BK400 hb
    replace BK401 := bB BK401 hb
    replace BK402 := bB BK402 hb
    replace BK407 := bB BK407 hb
    replace HB := bS HB hb
    (try clear hb)
    (try clear hb2)
    (try clear hk)
    (try clear hi)
    refine hK.out _ _ ⟨bc BK407 0, bc BK407 1⟩ (fun hHeld => ?_)
    clear hK K
    refine norm_ (a' := ?_) ?_ ?_
    rotate_left
    ·show Act.put _ (some 29) _ = _
     simp only [Act.put, List.setIfInBounds_toArray, List.set_cons_zero, List.set_cons_succ, i64_w, i32_w]
     rfl
    refine one_ (i := 4) (N := some 30) #[true, true, true, true, true, false, false] rfl rfl (by kernel_rfl) (by decide) (fun K hK => ?_)
    refine goes_ Try.func21 (by kernel_rfl) rfl #[.agg #[.int .i64 t408, .int .i64 t409], .agg #[.int .i64 t410, .int .i64 t411]] (by rfl) rfl rfl (by (try simp only [List.map_toArray, List.map_cons, List.map_nil]); first | done | rfl | (simp only [List.length_drop, List.length_take]; rfl)) ?_
    with_reducible refine (impl_TwoMul.calls t408 t409 t410 t411 t412 t413 _ A41.out).mono ?_
    rintro e w58 ⟨rfl, hb⟩
    refine ⟨_, rfl, ?_⟩
    replace BK400 := bB BK400 hb
    replace BK401 := bB BK401 hb
    replace BK402 := bB BK402 hb
    replace BK407 := bB BK407 hb
    replace HB := bS HB hb
    (try clear hb)
    (try clear hb2)
    (try clear hk)
    (try clear hi)
    refine hK.out _ _ ⟨bc BK407 0, bc BK407 1⟩ (fun hHeld => ?_)
    clear hK K
    refine norm_ (a' := ?_) ?_ ?_
    rotate_left
    ·show Act.put _ (some 30) _ = _
     simp only [Act.put, List.setIfInBounds_toArray, List.set_cons_zero, List.set_cons_succ, i64_w, i32_w]
     rfl
    refine one_ (i := 5) (N := some 31) #[true, true, true, true, true, true, false] rfl rfl (by kernel_rfl) (by decide) (fun K hK => ?_)
    refine goes_ Try.func20 (by kernel_rfl) rfl #[.agg #[.int .i64 t412, .int .i64 t413], .int .i64 12] (by rfl) rfl rfl (by (try simp only [List.map_toArray, List.map_cons, List.map_nil]); first | done | rfl | (simp only [List.length_drop, List.length_take]; rfl)) ?_
    with_reducible refine (impl_TwoPow.calls kj2 t412 t413 12 t414 t415 _ A42.out).mono ?_
    rintro e w59 ⟨rfl, hb⟩
    refine ⟨_, rfl, ?_⟩
    replace BK400 := bB BK400 hb
    replace BK401 := bB BK401 hb
    replace BK402 := bB BK402 hb
    replace BK407 := bB BK407 hb
    replace HB := bS HB hb
    (try clear hb)
    (try clear hb2)
    (try clear hk)
    (try clear hi)
    refine hK.out _ _ ⟨bc BK407 0, bc BK407 1⟩ (fun hHeld => ?_)
    clear hK K
    refine norm_ (a' := ?_) ?_ ?_
    rotate_left
    ·show Act.put _ (some 31) _ = _
     simp only [Act.put, List.setIfInBounds_toArray, List.set_cons_zero, List.set_cons_succ, i64_w, i32_w]
     rfl
    refine one_ (i := 6) (N := none) #[true, true, true, true, true, true, true] rfl rfl (by kernel_rfl) (by decide) (fun K hK => ?_)
    have hs60 : w59.cell? ⟨gb402, 0, none⟩ = some (.int .i64 0) := bc BK402 0
    have hfs60 := blk_frozen BK402.out 0
    have hns60_0 := NB400_402.out
    have hns60_1 := NB401_402.out
    have hns60_3 := NB407_402.out
    have hms60_0 := NB402_400.out
    have hms60_1 := NB402_401.out
    have hms60_3 := NB402_407.out
    have hs61 : w59.cell? ⟨gb402, 1, none⟩ = some (.int .i64 0) := bc BK402 1
    have hfs61 := blk_frozen BK402.out 1
    have hns61_0 := NB400_402.out
    have hns61_1 := NB401_402.out
    have hns61_3 := NB407_402.out
    have hms61_0 := NB402_400.out
    have hms61_1 := NB402_401.out
    have hms61_3 := NB402_407.out
    refine skip_ (w1 := ?_) (by rfl) rfl ?_ ?_
    rotate_left
    ·go_simp
     rfl
    refine hK.out _ _ ⟨((cell_far (p := ⟨gb402, _, none⟩) NB407_402.out _).trans (((cell_far (p := ⟨gb402, _, none⟩) NB407_402.out _).trans (hHeld.1)))), ((cell_far (p := ⟨gb402, _, none⟩) NB407_402.out _).trans (((cell_far (p := ⟨gb402, _, none⟩) NB407_402.out _).trans (hHeld.2))))⟩ (fun hHeld => ?_)
    clear hK K
    refine done_ (by kernel_rfl) ?_
    try go_wp2
    refine bodyPost_ret (results_cell_row rfl _ _ gb402 31 #[.int .i64 t414, .int .i64 t415] (0, 0) _ rfl (by (with_reducible repeat (first | refine blk_drewN ?_ _ | refine blk_drew ?_ | refine blk_alloc ?_ _)); refine blk_put (cs := #[.int .i64 t414, .int .i64 0]) ?_ 1 _ rfl; (with_reducible repeat (first | refine blk_drewN ?_ _ | refine blk_drew ?_ | refine blk_alloc ?_ _)); refine blk_put (cs := #[.int .i64 0, .int .i64 0]) ?_ 0 _ rfl; (with_reducible repeat (first | refine blk_drewN ?_ _ | refine blk_drew ?_ | refine blk_alloc ?_ _)); exact BK402.out) Try.underlying31 rfl (by kernel_rfl)) rfl ?_
    exact ⟨by first | rfl | (simp [errW_none, errW_some] <;> rfl) | (simp [*, errW_none, errW_some] <;> rfl), bZ HB⟩
/-! ### spec_TwoMul: function 71 -/
def spec_TwoMul.f (a0_0 : Int) (a0_1 : Int) (a1_0 : Int) (a1_1 : Int) : Option (Int × Int) := (spec_FpMul.f a0_0 a1_0).bind fun t445 => ((spec_FpMul.f a0_1 a1_1).bind fun t446 => ((spec_FpSub.f t445 t446).bind fun t447 => ((spec_FpMul.f a0_0 a1_1).bind fun t448 => ((spec_FpMul.f a0_1 a1_0).bind fun t449 => ((spec_FpAdd.f t448 t449).bind fun t450 => (some (t447, t450)))))))
def spec_TwoMul.T1 : Bool × List (List Nat × List Nat) := (true, [([], []), ([0], [0]), ([], []), ([2], [2]), ([1, 3], [1, 3]), ([], []), ([5], [5]), ([], []), ([7], [7]), ([6, 8, 4], [6, 8]), ([4, 9, 9], [4, 9]), ([], []), ([11], [11]), ([], []), ([13], [13]), ([12, 14, 10], [12, 14]), ([], []), ([16], [16]), ([], []), ([18], [18]), ([17, 19, 15], [17, 19]), ([15, 20, 20], [15, 20]), ([10, 21], [10, 21]), ([22, 21, 0, 1, 2, 3, 4, 5, 6, 7, 8, 9, 10, 11, 12, 13, 14, 15, 16, 17, 18, 19, 20, 21, 22], [22])])
def spec_TwoMul.B1 : List Nat := [0, 1, 0, 4, 15, 0, 32, 0, 128, 511, 1023, 0, 2048, 0, 8192, 32767, 0, 65536, 0, 262144, 1048575, 2097151, 4194303, 8388607]
theorem spec_TwoMul.tab1 : rtab .any (opsOf Try.f71 1) = spec_TwoMul.T1 := by kernel_rfl
theorem spec_TwoMul.bits1 : waitsOk spec_TwoMul.T1.2 spec_TwoMul.B1 = true := by kernel_rfl
set_option maxHeartbeats 8000000 in
set_option maxRecDepth 100000 in
theorem spec_TwoMul.calls (a0_0 : Int) (a0_1 : Int) (a1_0 : Int) (a1_1 : Int) (r1 : Int) (r2 : Int) (w : World) (h : spec_TwoMul.f a0_0 a0_1 a1_0 a1_1 = some (r1, r2)) :
  Calls Try.prog 71 #[.agg #[.int .i64 a0_0, .int .i64 a0_1], .agg #[.int .i64 a1_0, .int .i64 a1_1]] w fun e w' => e = .returned (.agg #[.int .i64 r1, .int .i64 r2]) ∧ Below w.heap.size w w' := by
 have hu31 := Try.underlying31
 have HB := Aside0.mk (Below.refl w.heap.size w)
 have H : ((spec_FpMul.f a0_0 a1_0).bind fun t445 => ((spec_FpMul.f a0_1 a1_1).bind fun t446 => ((spec_FpSub.f t445 t446).bind fun t447 => ((spec_FpMul.f a0_0 a1_1).bind fun t448 => ((spec_FpMul.f a0_1 a1_0).bind fun t449 => ((spec_FpAdd.f t448 t449).bind fun t450 => (some (t447, t450)))))))) = some (r1, r2) := h
 clear h
 replace H := Option.bind_eq_some_iff.mp H
 obtain ⟨t445, A30, H⟩ := H
 replace H : ((spec_FpMul.f a0_1 a1_1).bind fun t446 => ((spec_FpSub.f t445 t446).bind fun t447 => ((spec_FpMul.f a0_0 a1_1).bind fun t448 => ((spec_FpMul.f a0_1 a1_0).bind fun t449 => ((spec_FpAdd.f t448 t449).bind fun t450 => (some (t447, t450))))))) = some (r1, r2) := H
 have A3 := Aside0.mk A30
 clear A30
 replace H := Option.bind_eq_some_iff.mp H
 obtain ⟨t446, A40, H⟩ := H
 replace H : ((spec_FpSub.f t445 t446).bind fun t447 => ((spec_FpMul.f a0_0 a1_1).bind fun t448 => ((spec_FpMul.f a0_1 a1_0).bind fun t449 => ((spec_FpAdd.f t448 t449).bind fun t450 => (some (t447, t450)))))) = some (r1, r2) := H
 have A4 := Aside0.mk A40
 clear A40
 replace H := Option.bind_eq_some_iff.mp H
 obtain ⟨t447, A50, H⟩ := H
 replace H : ((spec_FpMul.f a0_0 a1_1).bind fun t448 => ((spec_FpMul.f a0_1 a1_0).bind fun t449 => ((spec_FpAdd.f t448 t449).bind fun t450 => (some (t447, t450))))) = some (r1, r2) := H
 have A5 := Aside0.mk A50
 clear A50
 replace H := Option.bind_eq_some_iff.mp H
 obtain ⟨t448, A60, H⟩ := H
 replace H : ((spec_FpMul.f a0_1 a1_0).bind fun t449 => ((spec_FpAdd.f t448 t449).bind fun t450 => (some (t447, t450)))) = some (r1, r2) := H
 have A6 := Aside0.mk A60
 clear A60
 replace H := Option.bind_eq_some_iff.mp H
 obtain ⟨t449, A70, H⟩ := H
 replace H : ((spec_FpAdd.f t448 t449).bind fun t450 => (some (t447, t450))) = some (r1, r2) := H
 have A7 := Aside0.mk A70
 clear A70
 replace H := Option.bind_eq_some_iff.mp H
 obtain ⟨t450, A80, H⟩ := H
 replace H : (some (t447, t450)) = some (r1, r2) := H
 have A8 := Aside0.mk A80
 clear A80
 simp only [Option.some.injEq, Prod.mk.injEq] at H
 obtain ⟨rfl, rfl⟩ := H
 go_enter Try.func71, Try.ntmps71
 try go_wp2_with (first | ((with_reducible refine gate_dst (N := 2) rfl ?_); refine box_event ?hg (N := 2) ?hd (cs := #[.int .i64 a0_0, .int .i64 a0_1]) (t := 31) ?hr ?_; (case hd => rfl); (case hg => rfl); (case hr => first | (go_simp; done) | (go_simp; rfl)); intro gb442 hg w9 hbox hb; have BK442 := Aside0.mk (hbox); have GW442 := bG HB hg; have GE442 := bG HB hg; replace HB := bS HB hb; clear hb hbox hg) | ((with_reducible refine gate_dst (N := 3) rfl ?_); refine box_event ?hg (N := 3) ?hd (cs := #[.int .i64 a1_0, .int .i64 a1_1]) (t := 31) ?hr ?_; (case hd => rfl); (case hg => rfl); (case hr => first | (go_simp; done) | (go_simp; rfl)); intro gb443 hg w10 hbox hb; have BK443 := Aside0.mk (hbox); have GW443 := bG HB hg; have GE443 := bG HB hg; replace HB := bS HB hb; have NB442_443 := bL BK442 hg; have NB443_442 := bR BK442 hg; replace BK442 := bB BK442 hb; clear hb hbox hg) | ((with_reducible refine gate_dst (N := 4) rfl ?_); refine box_event ?hg (N := 4) ?hd (cs := #[.int .i64 0, .int .i64 0]) (t := 31) ?hr ?_; (case hd => rfl); (case hg => rfl); (case hr => first | (go_simp; done) | (go_simp; rfl)); intro gb444 hg w11 hbox hb; have BK444 := Aside0.mk (hbox); have GW444 := bG HB hg; have GE444 := bG HB hg; replace HB := bS HB hb; have NB442_444 := bL BK442 hg; have NB444_442 := bR BK442 hg; replace BK442 := bB BK442 hb; have NB443_444 := bL BK443 hg; have NB444_443 := bR BK443 hg; replace BK443 := bB BK443 hb; clear hb hbox hg))
 replace BK442 := Aside0.mk (blk_drew BK442.out)
 replace BK443 := Aside0.mk (blk_drew BK443.out)
 replace BK444 := Aside0.mk (blk_drew BK444.out)
 replace HB := Aside0.mk (below_drew1 HB.out)
 refine start_ (n := 24) (S := fun w' => w'.cell? ⟨gb442, 0, none⟩ = some (.int .i64 a0_0) ∧ w'.cell? ⟨gb442, 1, none⟩ = some (.int .i64 a0_1) ∧ w'.cell? ⟨gb443, 0, none⟩ = some (.int .i64 a1_0) ∧ w'.cell? ⟨gb443, 1, none⟩ = some (.int .i64 a1_1)) (ds := []) #[false, false, false, false, false, false, false, false, false, false, false, false, false, false, false, false, false, false, false, false, false, false, false, false] (by kernel_rfl) rfl rfl ⟨bc BK442 0, bc BK442 1, bc BK443 0, bc BK443 1⟩ (fun hHeld => ?_); refine with_tabW spec_TwoMul.tab1 spec_TwoMul.bits1 (fun HT_ HW_ => ?_)
 generalize w11.drew = w12 at BK442 BK443 BK444 HB hHeld ⊢
 refine pure_ (i := 0) (N := some 5) (v := ?_) (a' := ?_) #[true, false, false, false, false, false, false, false, false, false, false, false, false, false, false, false, false, false, false, false, false, false, false, false] rfl rfl (any_of HT_.out (by kernel_rfl)) (fun _ _ _ h => h) (Or.inl ⟨by rfl, ?_⟩) ?_ ?_
 rotate_left
 ·intro w'
  go_simp
  with_reducible rfl
 rotate_left
 ·simp only [Act.put, List.setIfInBounds_toArray, List.set_cons_zero, List.set_cons_succ, i64_w, i32_w]
  rfl
 refine pure_ (i := 2) (N := some 7) (v := ?_) (a' := ?_) #[true, false, true, false, false, false, false, false, false, false, false, false, false, false, false, false, false, false, false, false, false, false, false, false] rfl rfl (any_of HT_.out (by kernel_rfl)) (fun _ _ _ h => h) (Or.inl ⟨by rfl, ?_⟩) ?_ ?_
 rotate_left
 ·intro w'
  go_simp
  with_reducible rfl
 rotate_left
 ·simp only [Act.put, List.setIfInBounds_toArray, List.set_cons_zero, List.set_cons_succ, i64_w, i32_w]
  rfl
 refine pure_ (i := 5) (N := some 10) (v := ?_) (a' := ?_) #[true, false, true, false, false, true, false, false, false, false, false, false, false, false, false, false, false, false, false, false, false, false, false, false] rfl rfl (any_of HT_.out (by kernel_rfl)) (fun _ _ _ h => h) (Or.inl ⟨by rfl, ?_⟩) ?_ ?_
 rotate_left
 ·intro w'
  go_simp
  with_reducible rfl
 rotate_left
 ·simp only [Act.put, List.setIfInBounds_toArray, List.set_cons_zero, List.set_cons_succ, i64_w, i32_w]
  rfl
 refine pure_ (i := 7) (N := some 12) (v := ?_) (a' := ?_) #[true, false, true, false, false, true, false, true, false, false, false, false, false, false, false, false, false, false, false, false, false, false, false, false] rfl rfl (any_of HT_.out (by kernel_rfl)) (fun _ _ _ h => h) (Or.inl ⟨by rfl, ?_⟩) ?_ ?_
 rotate_left
 ·intro w'
  go_simp
  with_reducible rfl
 rotate_left
 ·simp only [Act.put, List.setIfInBounds_toArray, List.set_cons_zero, List.set_cons_succ, i64_w, i32_w]
  rfl
 refine pure_ (i := 11) (N := some 16) (v := ?_) (a' := ?_) #[true, false, true, false, false, true, false, true, false, false, false, true, false, false, false, false, false, false, false, false, false, false, false, false] rfl rfl (any_of HT_.out (by kernel_rfl)) (fun _ _ _ h => h) (Or.inl ⟨by rfl, ?_⟩) ?_ ?_
 rotate_left
 ·intro w'
  go_simp
  with_reducible rfl
 rotate_left
 ·simp only [Act.put, List.setIfInBounds_toArray, List.set_cons_zero, List.set_cons_succ, i64_w, i32_w]
  rfl
 refine pure_ (i := 13) (N := some 18) (v := ?_) (a' := ?_) #[true, false, true, false, false, true, false, true, false, false, false, true, false, true, false, false, false, false, false, false, false, false, false, false] rfl rfl (any_of HT_.out (by kernel_rfl)) (fun _ _ _ h => h) (Or.inl ⟨by rfl, ?_⟩) ?_ ?_
 rotate_left
 ·intro w'
  go_simp
  with_reducible rfl
 rotate_left
 ·simp only [Act.put, List.setIfInBounds_toArray, List.set_cons_zero, List.set_cons_succ, i64_w, i32_w]
  rfl
 refine pure_ (i := 16) (N := some 21) (v := ?_) (a' := ?_) #[true, false, true, false, false, true, false, true, false, false, false, true, false, true, false, false, true, false, false, false, false, false, false, false] rfl rfl (any_of HT_.out (by kernel_rfl)) (fun _ _ _ h => h) (Or.inl ⟨by rfl, ?_⟩) ?_ ?_
 rotate_left
 ·intro w'
  go_simp
  with_reducible rfl
 rotate_left
 ·simp only [Act.put, List.setIfInBounds_toArray, List.set_cons_zero, List.set_cons_succ, i64_w, i32_w]
  rfl
 refine pure_ (i := 18) (N := some 23) (v := ?_) (a' := ?_) #[true, false, true, false, false, true, false, true, false, false, false, true, false, true, false, false, true, false, true, false, false, false, false, false] rfl rfl (any_of HT_.out (by kernel_rfl)) (fun _ _ _ h => h) (Or.inl ⟨by rfl, ?_⟩) ?_ ?_
 rotate_left
 ·intro w'
  go_simp
  with_reducible rfl
 rotate_left
 ·simp only [Act.put, List.setIfInBounds_toArray, List.set_cons_zero, List.set_cons_succ, i64_w, i32_w]
  rfl
 refine take_ (i := 1) (N := some 6) (v := ?_) (a' := ?_) #[true, true, true, false, false, true, false, true, false, false, false, true, false, true, false, false, true, false, true, false, false, false, false, false] rfl rfl (take_ofW HT_.out HW_.out (by kernel_rfl)) (fun _ _ _ h => h) (Or.inl ⟨by rfl, ?_⟩) hHeld ?_ ?_
 rotate_left
 ·rintro w' ⟨s0, s1, s2, s3⟩
  go_simp
  with_reducible rfl
 rotate_left
 ·simp only [Act.put, List.setIfInBounds_toArray, List.set_cons_zero, List.set_cons_succ, i64_w, i32_w]
  rfl
 refine take_ (i := 3) (N := some 8) (v := ?_) (a' := ?_) #[true, true, true, true, false, true, false, true, false, false, false, true, false, true, false, false, true, false, true, false, false, false, false, false] rfl rfl (take_ofW HT_.out HW_.out (by kernel_rfl)) (fun _ _ _ h => h) (Or.inl ⟨by rfl, ?_⟩) hHeld ?_ ?_
 rotate_left
 ·rintro w' ⟨s0, s1, s2, s3⟩
  go_simp
  with_reducible rfl
 rotate_left
 ·simp only [Act.put, List.setIfInBounds_toArray, List.set_cons_zero, List.set_cons_succ, i64_w, i32_w]
  rfl
 refine take_ (i := 6) (N := some 11) (v := ?_) (a' := ?_) #[true, true, true, true, false, true, true, true, false, false, false, true, false, true, false, false, true, false, true, false, false, false, false, false] rfl rfl (take_ofW HT_.out HW_.out (by kernel_rfl)) (fun _ _ _ h => h) (Or.inl ⟨by rfl, ?_⟩) hHeld ?_ ?_
 rotate_left
 ·rintro w' ⟨s0, s1, s2, s3⟩
  go_simp
  with_reducible rfl
 rotate_left
 ·simp only [Act.put, List.setIfInBounds_toArray, List.set_cons_zero, List.set_cons_succ, i64_w, i32_w]
  rfl
 refine take_ (i := 8) (N := some 13) (v := ?_) (a' := ?_) #[true, true, true, true, false, true, true, true, true, false, false, true, false, true, false, false, true, false, true, false, false, false, false, false] rfl rfl (take_ofW HT_.out HW_.out (by kernel_rfl)) (fun _ _ _ h => h) (Or.inl ⟨by rfl, ?_⟩) hHeld ?_ ?_
 rotate_left
 ·rintro w' ⟨s0, s1, s2, s3⟩
  go_simp
  with_reducible rfl
 rotate_left
 ·simp only [Act.put, List.setIfInBounds_toArray, List.set_cons_zero, List.set_cons_succ, i64_w, i32_w]
  rfl
 refine take_ (i := 12) (N := some 17) (v := ?_) (a' := ?_) #[true, true, true, true, false, true, true, true, true, false, false, true, true, true, false, false, true, false, true, false, false, false, false, false] rfl rfl (take_ofW HT_.out HW_.out (by kernel_rfl)) (fun _ _ _ h => h) (Or.inl ⟨by rfl, ?_⟩) hHeld ?_ ?_
 rotate_left
 ·rintro w' ⟨s0, s1, s2, s3⟩
  go_simp
  with_reducible rfl
 rotate_left
 ·simp only [Act.put, List.setIfInBounds_toArray, List.set_cons_zero, List.set_cons_succ, i64_w, i32_w]
  rfl
 refine take_ (i := 14) (N := some 19) (v := ?_) (a' := ?_) #[true, true, true, true, false, true, true, true, true, false, false, true, true, true, true, false, true, false, true, false, false, false, false, false] rfl rfl (take_ofW HT_.out HW_.out (by kernel_rfl)) (fun _ _ _ h => h) (Or.inl ⟨by rfl, ?_⟩) hHeld ?_ ?_
 rotate_left
 ·rintro w' ⟨s0, s1, s2, s3⟩
  go_simp
  with_reducible rfl
 rotate_left
 ·simp only [Act.put, List.setIfInBounds_toArray, List.set_cons_zero, List.set_cons_succ, i64_w, i32_w]
  rfl
 refine take_ (i := 17) (N := some 22) (v := ?_) (a' := ?_) #[true, true, true, true, false, true, true, true, true, false, false, true, true, true, true, false, true, true, true, false, false, false, false, false] rfl rfl (take_ofW HT_.out HW_.out (by kernel_rfl)) (fun _ _ _ h => h) (Or.inl ⟨by rfl, ?_⟩) hHeld ?_ ?_
 rotate_left
 ·rintro w' ⟨s0, s1, s2, s3⟩
  go_simp
  with_reducible rfl
 rotate_left
 ·simp only [Act.put, List.setIfInBounds_toArray, List.set_cons_zero, List.set_cons_succ, i64_w, i32_w]
  rfl
 refine take_ (i := 19) (N := some 24) (v := ?_) (a' := ?_) #[true, true, true, true, false, true, true, true, true, false, false, true, true, true, true, false, true, true, true, true, false, false, false, false] rfl rfl (take_ofW HT_.out HW_.out (by kernel_rfl)) (fun _ _ _ h => h) (Or.inl ⟨by rfl, ?_⟩) hHeld ?_ ?_
 rotate_left
 ·rintro w' ⟨s0, s1, s2, s3⟩
  go_simp
  with_reducible rfl
 rotate_left
 ·simp only [Act.put, List.setIfInBounds_toArray, List.set_cons_zero, List.set_cons_succ, i64_w, i32_w]
  rfl
 refine one_ (i := 4) (N := some 9) #[true, true, true, true, true, true, true, true, true, false, false, true, true, true, true, false, true, true, true, true, false, false, false, false] rfl rfl (one_of HT_.out (by kernel_rfl)) (by decide) (fun K hK => ?_)
 refine goes_ Try.func76 (by kernel_rfl) rfl #[.int .i64 a0_0, .int .i64 a1_0] (by rfl) rfl rfl (by (try simp only [List.map_toArray, List.map_cons, List.map_nil]); first | done | rfl | (simp only [List.length_drop, List.length_take]; rfl)) ?_
 with_reducible refine (spec_FpMul.calls a0_0 a1_0 t445 _ A3.out).mono ?_
 rintro e w' ⟨rfl, ⟨nd, rfl⟩⟩
 refine ⟨_, rfl, ?_⟩
 refine hK.out _ _ ⟨bc BK442 0, bc BK442 1, bc BK443 0, bc BK443 1⟩ (fun hHeld => ?_)
 clear hK K
 refine norm_ (a' := ?_) ?_ ?_
 rotate_left
 ·show Act.put _ (some 9) _ = _
  simp only [Act.put, List.setIfInBounds_toArray, List.set_cons_zero, List.set_cons_succ, i64_w, i32_w]
  rfl
 refine one_ (i := 9) (N := some 14) #[true, true, true, true, true, true, true, true, true, true, false, true, true, true, true, false, true, true, true, true, false, false, false, false] rfl rfl (one_of HT_.out (by kernel_rfl)) (by decide) (fun K hK => ?_)
 refine goes_ Try.func76 (by kernel_rfl) rfl #[.int .i64 a0_1, .int .i64 a1_1] (by rfl) rfl rfl (by (try simp only [List.map_toArray, List.map_cons, List.map_nil]); first | done | rfl | (simp only [List.length_drop, List.length_take]; rfl)) ?_
 with_reducible refine (spec_FpMul.calls a0_1 a1_1 t446 _ A4.out).mono ?_
 rintro e w' ⟨rfl, ⟨nd, rfl⟩⟩
 refine ⟨_, rfl, ?_⟩
 refine hK.out _ _ ⟨bc BK442 0, bc BK442 1, bc BK443 0, bc BK443 1⟩ (fun hHeld => ?_)
 clear hK K
 refine norm_ (a' := ?_) ?_ ?_
 rotate_left
 ·show Act.put _ (some 14) _ = _
  simp only [Act.put, List.setIfInBounds_toArray, List.set_cons_zero, List.set_cons_succ, i64_w, i32_w]
  rfl
 refine one_ (i := 10) (N := some 15) #[true, true, true, true, true, true, true, true, true, true, true, true, true, true, true, false, true, true, true, true, false, false, false, false] rfl rfl (one_of HT_.out (by kernel_rfl)) (by decide) (fun K hK => ?_)
 refine goes_ Try.func75 (by kernel_rfl) rfl #[.int .i64 t445, .int .i64 t446] (by rfl) rfl rfl (by (try simp only [List.map_toArray, List.map_cons, List.map_nil]); first | done | rfl | (simp only [List.length_drop, List.length_take]; rfl)) ?_
 with_reducible refine (spec_FpSub.calls t445 t446 t447 _ A5.out).mono ?_
 rintro e w' ⟨rfl, ⟨nd, rfl⟩⟩
 refine ⟨_, rfl, ?_⟩
 refine hK.out _ _ ⟨bc BK442 0, bc BK442 1, bc BK443 0, bc BK443 1⟩ (fun hHeld => ?_)
 clear hK K
 refine norm_ (a' := ?_) ?_ ?_
 rotate_left
 ·show Act.put _ (some 15) _ = _
  simp only [Act.put, List.setIfInBounds_toArray, List.set_cons_zero, List.set_cons_succ, i64_w, i32_w]
  rfl
 refine one_ (i := 15) (N := some 20) #[true, true, true, true, true, true, true, true, true, true, true, true, true, true, true, true, true, true, true, true, false, false, false, false] rfl rfl (one_of HT_.out (by kernel_rfl)) (by decide) (fun K hK => ?_)
 refine goes_ Try.func76 (by kernel_rfl) rfl #[.int .i64 a0_0, .int .i64 a1_1] (by rfl) rfl rfl (by (try simp only [List.map_toArray, List.map_cons, List.map_nil]); first | done | rfl | (simp only [List.length_drop, List.length_take]; rfl)) ?_
 with_reducible refine (spec_FpMul.calls a0_0 a1_1 t448 _ A6.out).mono ?_
 rintro e w' ⟨rfl, ⟨nd, rfl⟩⟩
 refine ⟨_, rfl, ?_⟩
 refine hK.out _ _ ⟨bc BK442 0, bc BK442 1, bc BK443 0, bc BK443 1⟩ (fun hHeld => ?_)
 clear hK K
 refine norm_ (a' := ?_) ?_ ?_
 rotate_left
 ·show Act.put _ (some 20) _ = _
  simp only [Act.put, List.setIfInBounds_toArray, List.set_cons_zero, List.set_cons_succ, i64_w, i32_w]
  rfl
 refine one_ (i := 20) (N := some 25) #[true, true, true, true, true, true, true, true, true, true, true, true, true, true, true, true, true, true, true, true, true, false, false, false] rfl rfl (one_of HT_.out (by kernel_rfl)) (by decide) (fun K hK => ?_)
 refine goes_ Try.func76 (by kernel_rfl) rfl #[.int .i64 a0_1, .int .i64 a1_0] (by rfl) rfl rfl (by (try simp only [List.map_toArray, List.map_cons, List.map_nil]); first | done | rfl | (simp only [List.length_drop, List.length_take]; rfl)) ?_
 with_reducible refine (spec_FpMul.calls a0_1 a1_0 t449 _ A7.out).mono ?_
 rintro e w' ⟨rfl, ⟨nd, rfl⟩⟩
 refine ⟨_, rfl, ?_⟩
 refine hK.out _ _ ⟨bc BK442 0, bc BK442 1, bc BK443 0, bc BK443 1⟩ (fun hHeld => ?_)
 clear hK K
 refine norm_ (a' := ?_) ?_ ?_
 rotate_left
 ·show Act.put _ (some 25) _ = _
  simp only [Act.put, List.setIfInBounds_toArray, List.set_cons_zero, List.set_cons_succ, i64_w, i32_w]
  rfl
 refine one_ (i := 21) (N := some 26) #[true, true, true, true, true, true, true, true, true, true, true, true, true, true, true, true, true, true, true, true, true, true, false, false] rfl rfl (one_of HT_.out (by kernel_rfl)) (by decide) (fun K hK => ?_)
 refine goes_ Try.func103 (by kernel_rfl) rfl #[.int .i64 t448, .int .i64 t449] (by rfl) rfl rfl (by (try simp only [List.map_toArray, List.map_cons, List.map_nil]); first | done | rfl | (simp only [List.length_drop, List.length_take]; rfl)) ?_
 with_reducible refine (spec_FpAdd.calls t448 t449 t450 _ A8.out).mono ?_
 rintro e w' ⟨rfl, ⟨nd, rfl⟩⟩
 refine ⟨_, rfl, ?_⟩
 refine hK.out _ _ ⟨bc BK442 0, bc BK442 1, bc BK443 0, bc BK443 1⟩ (fun hHeld => ?_)
 clear hK K
 refine norm_ (a' := ?_) ?_ ?_
 rotate_left
 ·show Act.put _ (some 26) _ = _
  simp only [Act.put, List.setIfInBounds_toArray, List.set_cons_zero, List.set_cons_succ, i64_w, i32_w]
  rfl
 refine pure_ (i := 22) (N := some 27) (v := ?_) (a' := ?_) #[true, true, true, true, true, true, true, true, true, true, true, true, true, true, true, true, true, true, true, true, true, true, true, false] rfl rfl (any_of HT_.out (by kernel_rfl)) (fun _ _ _ h => h) (Or.inl ⟨by rfl, ?_⟩) ?_ ?_
 rotate_left
 ·intro w'
  go_simp
  with_reducible rfl
 rotate_left
 ·simp only [Act.put, List.setIfInBounds_toArray, List.set_cons_zero, List.set_cons_succ, i64_w, i32_w]
  rfl
 refine one_ (i := 23) (N := none) #[true, true, true, true, true, true, true, true, true, true, true, true, true, true, true, true, true, true, true, true, true, true, true, true] rfl rfl (one_of HT_.out (by kernel_rfl)) (by decide) (fun K hK => ?_)
 have hs13 : w12.cell? ⟨gb444, 0, none⟩ = some (.int .i64 0) := bc BK444 0
 have hfs13 := blk_frozen BK444.out 0
 have hns13_0 := NB442_444.out
 have hns13_1 := NB443_444.out
 have hms13_0 := NB444_442.out
 have hms13_1 := NB444_443.out
 have hs14 : w12.cell? ⟨gb444, 1, none⟩ = some (.int .i64 0) := bc BK444 1
 have hfs14 := blk_frozen BK444.out 1
 have hns14_0 := NB442_444.out
 have hns14_1 := NB443_444.out
 have hms14_0 := NB444_442.out
 have hms14_1 := NB444_443.out
 refine skip_ (w1 := ?_) (by rfl) rfl ?_ ?_
 rotate_left
 ·go_simp
  rfl
 refine hK.out _ _ ⟨((cell_far (p := ⟨gb444, _, none⟩) NB442_444.out _).trans (((cell_far (p := ⟨gb444, _, none⟩) NB442_444.out _).trans (hHeld.1)))), ((cell_far (p := ⟨gb444, _, none⟩) NB442_444.out _).trans (((cell_far (p := ⟨gb444, _, none⟩) NB442_444.out _).trans (hHeld.2.1)))), ((cell_far (p := ⟨gb444, _, none⟩) NB443_444.out _).trans (((cell_far (p := ⟨gb444, _, none⟩) NB443_444.out _).trans (hHeld.2.2.1)))), ((cell_far (p := ⟨gb444, _, none⟩) NB443_444.out _).trans (((cell_far (p := ⟨gb444, _, none⟩) NB443_444.out _).trans (hHeld.2.2.2))))⟩ (fun hHeld => ?_)
 clear hK K
 refine done_ (done_of HT_.out (by kernel_rfl)) ?_
 try go_wp2
 refine bodyPost_ret (results_cell_row rfl _ _ gb444 31 #[.int .i64 t447, .int .i64 t450] (0, 0) _ rfl (by (with_reducible repeat (first | refine blk_drewN ?_ _ | refine blk_drew ?_ | refine blk_alloc ?_ _)); refine blk_put (cs := #[.int .i64 t447, .int .i64 0]) ?_ 1 _ rfl; (with_reducible repeat (first | refine blk_drewN ?_ _ | refine blk_drew ?_ | refine blk_alloc ?_ _)); refine blk_put (cs := #[.int .i64 0, .int .i64 0]) ?_ 0 _ rfl; (with_reducible repeat (first | refine blk_drewN ?_ _ | refine blk_drew ?_ | refine blk_alloc ?_ _)); exact BK444.out) Try.underlying31 rfl (by kernel_rfl)) rfl ?_
 exact ⟨by first | rfl | (simp [errW_none, errW_some] <;> rfl) | (simp [*, errW_none, errW_some] <;> rfl), bZ HB⟩
end Go.Proofs.Ytmbjefdkjdemhaa.Pf
end
