/- What is proved here: part 2 of 3 of the proof of the given statement FnExactPairLine: the contracts of the Go functions that it reaches, the plain facts on lists and numbers, and (in the last part) the statement itself. No conditions beyond the given ones. -/
import Derived.Test.YtmbjefdkjdemhaaMFnExactPairLinewSlim
import Derived.Test.YtmbjefdkjdemhaaMFnExactPairLinea

section
namespace Go.Proofs.Ytmbjefdkjdemhaa.Pf
open Go.RowKit Go.Proofs.YtmbjefdkjdemhaaW.PrintWords Go.Proofs.YtmbjefdkjdemhaaW.PrintLast Go.Proofs.YtmbjefdkjdemhaaW.PrintMore
attribute [local go_sem] max2_int min2_int max_two min_two max_three min_three max_four min_four   -- for this text's walks alone
set_option linter.unusedVariables false
set_option linter.unusedSimpArgs false
/-! ### spec_PairLine: function 23 -/
def spec_PairLine.j0 : Nat → Bool → Int → Int → Bool → Int → Int → Bool → Int → Int → Bool → Int → Int → Option (Int × Int)
 | 0, _, _, _, _, _, _, _, _, _, _, _, _ => none
 | k + 1, x36, x417000, x417001, x417002, x418000, x418001, x418002, x419000, x419001, x419002, x421000, x421001 => if x36 = true then (some (x421000, x421001)) else ((spec_l07Slope.f k x417000 x417001 x417002 x418000 x418001 x418002).bind fun bt424 => (if bt424.2 = true then ((spec_FpSub.f 0 x419000).bind fun t426 => ((spec_FpSub.f t426 x417000).bind fun t427 => ((spec_FpSub.f 0 x417001).bind fun t428 => ((spec_FpMul.f bt424.1 t427).bind fun t429 => ((spec_FpSub.f t428 t429).bind fun t430 => (some (t430, x419001))))))) else (some (x421000, x421001))))
def spec_PairLine.f (k : Nat) (a0_0 : Int) (a0_1 : Int) (a0_2 : Bool) (a1_0 : Int) (a1_1 : Int) (a1_2 : Bool) (a2_0 : Int) (a2_1 : Int) (a2_2 : Bool) : Option (Int × Int) := if a0_2 = true then (spec_PairLine.j0 k true a0_0 a0_1 a0_2 a1_0 a1_1 a1_2 a2_0 a2_1 a2_2 1 0) else (if a1_2 = true then (spec_PairLine.j0 k true a0_0 a0_1 a0_2 a1_0 a1_1 a1_2 a2_0 a2_1 a2_2 1 0) else (if a2_2 = true then (spec_PairLine.j0 k true a0_0 a0_1 a0_2 a1_0 a1_1 a1_2 a2_0 a2_1 a2_2 1 0) else ((spec_PointOk.f a0_0 a0_1 a0_2).bind fun t421 => (if t421 = true then ((spec_PointOk.f a1_0 a1_1 a1_2).bind fun t422 => (if t422 = true then ((spec_PointOk.f a2_0 a2_1 a2_2).bind fun t423 => (spec_PairLine.j0 k (!t423) a0_0 a0_1 a0_2 a1_0 a1_1 a1_2 a2_0 a2_1 a2_2 1 0)) else (spec_PairLine.j0 k true a0_0 a0_1 a0_2 a1_0 a1_1 a1_2 a2_0 a2_1 a2_2 1 0))) else (spec_PairLine.j0 k true a0_0 a0_1 a0_2 a1_0 a1_1 a1_2 a2_0 a2_1 a2_2 1 0)))))
theorem spec_PairLine.mono_l : ∀ k, (∀ y0 y1 y2 y3 y4 y5 y6 y7 y8 y9 y10 y11, LeO (spec_PairLine.j0 k y0 y1 y2 y3 y4 y5 y6 y7 y8 y9 y10 y11) (spec_PairLine.j0 (k + 1) y0 y1 y2 y3 y4 y5 y6 y7 y8 y9 y10 y11))
 | 0 => fun _ _ _ _ _ _ _ _ _ _ _ _ r h => by simp [spec_PairLine.j0] at h
 | k + 1 => by
  have ih0 := spec_PairLine.mono_l k
  ·intro y0 y1 y2 y3 y4 y5 y6 y7 y8 y9 y10 y11
   unfold spec_PairLine.j0
   repeat' first
   | (with_reducible exact ih0 _ _ _ _ _ _ _ _ _ _ _ _)
   | (with_reducible exact spec_l07Slope.mono _ _ _ _ _ _ _)
   | (with_reducible exact LeO.refl _)
   | (with_reducible exact LeO.none _)
   | (with_reducible refine LeO.ite ?_ ?_)
   | (with_reducible refine LeO.bind ?_ (fun _ => ?_))
   | exact ih0 _ _ _ _ _ _ _ _ _ _ _ _
   | exact spec_l07Slope.mono _ _ _ _ _ _ _
   | exact LeO.none _
   | refine LeO.ite ?_ ?_
   | refine LeO.bind ?_ (fun _ => ?_)
theorem spec_PairLine.mono : ∀ a0 a1 a2 a3 a4 a5 a6 a7 a8 k, LeO (spec_PairLine.f k a0 a1 a2 a3 a4 a5 a6 a7 a8) (spec_PairLine.f (k + 1) a0 a1 a2 a3 a4 a5 a6 a7 a8) := by
 intro a0 a1 a2 a3 a4 a5 a6 a7 a8 k
 have ih0 := spec_PairLine.mono_l k
 unfold spec_PairLine.f
 repeat' first
   | (with_reducible exact ih0 _ _ _ _ _ _ _ _ _ _ _ _)
   | (with_reducible exact spec_l07Slope.mono _ _ _ _ _ _ _)
   | (with_reducible exact LeO.refl _)
   | (with_reducible exact LeO.none _)
   | (with_reducible refine LeO.ite ?_ ?_)
   | (with_reducible refine LeO.bind ?_ (fun _ => ?_))
   | exact ih0 _ _ _ _ _ _ _ _ _ _ _ _
   | exact spec_l07Slope.mono _ _ _ _ _ _ _
   | exact LeO.none _
   | refine LeO.ite ?_ ?_
   | refine LeO.bind ?_ (fun _ => ?_)
def spec_PairLine.T8 : Bool × List (List Nat × List Nat) := (true, [([], []), ([0], [0]), ([1], [1]), ([], []), ([], []), ([3, 4, 2], [3, 4]), ([2, 5, 5], [2, 5]), ([], []), ([7], [7]), ([6, 8], [6, 8]), ([9, 6, 0, 1, 2, 3, 4, 5, 6, 7, 8, 9], [9])])
def spec_PairLine.B8 : List Nat := [0, 1, 3, 0, 0, 31, 63, 0, 128, 511, 1023]
theorem spec_PairLine.tab8 : rtab .any (opsOf Try.f23 8) = spec_PairLine.T8 := by kernel_rfl
theorem spec_PairLine.bits8 : waitsOk spec_PairLine.T8.2 spec_PairLine.B8 = true := by kernel_rfl
set_option maxHeartbeats 8000000 in
set_option maxRecDepth 100000 in
theorem spec_PairLine.calls (k : Nat) (a0_0 : Int) (a0_1 : Int) (a0_2 : Bool) (a1_0 : Int) (a1_1 : Int) (a1_2 : Bool) (a2_0 : Int) (a2_1 : Int) (a2_2 : Bool) (r1 : Int) (r2 : Int) (w : World) (h : spec_PairLine.f k a0_0 a0_1 a0_2 a1_0 a1_1 a1_2 a2_0 a2_1 a2_2 = some (r1, r2)) :
  Calls Try.prog 23 #[.agg #[.int .i64 a0_0, .int .i64 a0_1, .bool a0_2], .agg #[.int .i64 a1_0, .int .i64 a1_1, .bool a1_2], .agg #[.int .i64 a2_0, .int .i64 a2_1, .bool a2_2]] w fun e w' => e = .returned (.agg #[.int .i64 r1, .int .i64 r2]) ∧ Below w.heap.size w w' := by
 have hu25 := Try.underlying25
 have hu31 := Try.underlying31
 have HB := Aside0.mk (Below.refl w.heap.size w)
 have H : (if a0_2 = true then (spec_PairLine.j0 k true a0_0 a0_1 a0_2 a1_0 a1_1 a1_2 a2_0 a2_1 a2_2 1 0) else (if a1_2 = true then (spec_PairLine.j0 k true a0_0 a0_1 a0_2 a1_0 a1_1 a1_2 a2_0 a2_1 a2_2 1 0) else (if a2_2 = true then (spec_PairLine.j0 k true a0_0 a0_1 a0_2 a1_0 a1_1 a1_2 a2_0 a2_1 a2_2 1 0) else ((spec_PointOk.f a0_0 a0_1 a0_2).bind fun t421 => (if t421 = true then ((spec_PointOk.f a1_0 a1_1 a1_2).bind fun t422 => (if t422 = true then ((spec_PointOk.f a2_0 a2_1 a2_2).bind fun t423 => (spec_PairLine.j0 k (!t423) a0_0 a0_1 a0_2 a1_0 a1_1 a1_2 a2_0 a2_1 a2_2 1 0)) else (spec_PairLine.j0 k true a0_0 a0_1 a0_2 a1_0 a1_1 a1_2 a2_0 a2_1 a2_2 1 0))) else (spec_PairLine.j0 k true a0_0 a0_1 a0_2 a1_0 a1_1 a1_2 a2_0 a2_1 a2_2 1 0)))))) = some (r1, r2) := h
 clear h
 have HC4 := Aside0.mk H
 clear H
 go_enter Try.func23, Try.ntmps23
 go_upto_region 2 with (first | ((with_reducible refine gate_dst (N := 3) rfl ?_); refine box_event ?hg (N := 3) ?hd (cs := #[.int .i64 a0_0, .int .i64 a0_1, .bool a0_2]) (t := 25) ?hr ?_; (case hd => rfl); (case hg => rfl); (case hr => first | (go_simp; done) | (go_simp; rfl)); intro gb416 hg w5 hbox hb; have BK416 := Aside0.mk (hbox); have GW416 := bG HB hg; have GE416 := bG HB hg; replace HB := bS HB hb; clear hb hbox hg) | ((with_reducible refine gate_dst (N := 4) rfl ?_); refine box_event ?hg (N := 4) ?hd (cs := #[.int .i64 a1_0, .int .i64 a1_1, .bool a1_2]) (t := 25) ?hr ?_; (case hd => rfl); (case hg => rfl); (case hr => first | (go_simp; done) | (go_simp; rfl)); intro gb417 hg w6 hbox hb; have BK417 := Aside0.mk (hbox); have GW417 := bG HB hg; have GE417 := bG HB hg; replace HB := bS HB hb; have NB416_417 := bL BK416 hg; have NB417_416 := bR BK416 hg; replace BK416 := bB BK416 hb; clear hb hbox hg) | ((with_reducible refine gate_dst (N := 5) rfl ?_); refine box_event ?hg (N := 5) ?hd (cs := #[.int .i64 a2_0, .int .i64 a2_1, .bool a2_2]) (t := 25) ?hr ?_; (case hd => rfl); (case hg => rfl); (case hr => first | (go_simp; done) | (go_simp; rfl)); intro gb418 hg w7 hbox hb; have BK418 := Aside0.mk (hbox); have GW418 := bG HB hg; have GE418 := bG HB hg; replace HB := bS HB hb; have NB416_418 := bL BK416 hg; have NB418_416 := bR BK416 hg; replace BK416 := bB BK416 hb; have NB417_418 := bL BK417 hg; have NB418_417 := bR BK417 hg; replace BK417 := bB BK417 hb; clear hb hbox hg) | ((with_reducible refine gate_dst (N := 6) rfl ?_); refine box_event ?hg (N := 6) ?hd (cs := #[.int .i64 0, .int .i64 0]) (t := 31) ?hr ?_; (case hd => rfl); (case hg => rfl); (case hr => first | (go_simp; done) | (go_simp; rfl)); intro gb419 hg w8 hbox hb; have BK419 := Aside0.mk (hbox); have GW419 := bG HB hg; have GE419 := bG HB hg; replace HB := bS HB hb; have NB416_419 := bL BK416 hg; have NB419_416 := bR BK416 hg; replace BK416 := bB BK416 hb; have NB417_419 := bL BK417 hg; have NB419_417 := bR BK417 hg; replace BK417 := bB BK417 hb; have NB418_419 := bL BK418 hg; have NB419_418 := bR BK418 hg; replace BK418 := bB BK418 hb; clear hb hbox hg) | ((with_reducible refine gate_dst (N := 7) rfl ?_); refine box_event ?hg (N := 7) ?hd (cs := #[.int .i64 0, .int .i64 0]) (t := 31) ?hr ?_; (case hd => rfl); (case hg => rfl); (case hr => first | (go_simp; done) | (go_simp; rfl)); intro gb420 hg w9 hbox hb; have BK420 := Aside0.mk (hbox); have GW420 := bG HB hg; have GE420 := bG HB hg; replace HB := bS HB hb; have NB416_420 := bL BK416 hg; have NB420_416 := bR BK416 hg; replace BK416 := bB BK416 hb; have NB417_420 := bL BK417 hg; have NB420_417 := bR BK417 hg; replace BK417 := bB BK417 hb; have NB418_420 := bL BK418 hg; have NB420_418 := bR BK418 hg; replace BK418 := bB BK418 hb; have NB419_420 := bL BK419 hg; have NB420_419 := bR BK419 hg; replace BK419 := bB BK419 hb; clear hb hbox hg; have hnb10 := NB420_416.out; have hnc10 := NB416_420.out; have hnb11 := NB420_417.out; have hnc11 := NB417_420.out; have hnb12 := NB420_418.out; have hnc12 := NB418_420.out; have hnb13 := NB420_419.out; have hnc13 := NB419_420.out; have hcz14_0 : w9.cell? ⟨gb420, 0, none⟩ = some (.int .i64 0) := bc BK420 0; have hcz14_1 : w9.cell? ⟨gb420, 1, none⟩ = some (.int .i64 0) := bc BK420 1; have hfz14_0 := blk_frozen BK420.out 0; have hfz14_1 := blk_frozen BK420.out 1))
 (try simp only [Act.put, List.setIfInBounds_toArray, List.set_cons_zero, List.set_cons_succ])
 go_cut [36] (fun v36 wc => ∃ (kq : Nat) (x36_3 : Bool), v36 = .bool x36_3 ∧ Aside0 (spec_PairLine.j0 kq x36_3 a0_0 a0_1 a0_2 a1_0 a1_1 a1_2 a2_0 a2_1 a2_2 1 0 = some (r1, r2)) ∧ Aside0 (kq ≤ k) ∧ Aside0 (wc.heap[gb416]? = some (.cells #[.int .i64 a0_0, .int .i64 a0_1, .bool a0_2] 25 (0, 0))) ∧ Aside0 (wc.heap[gb417]? = some (.cells #[.int .i64 a1_0, .int .i64 a1_1, .bool a1_2] 25 (0, 0))) ∧ Aside0 (wc.heap[gb418]? = some (.cells #[.int .i64 a2_0, .int .i64 a2_1, .bool a2_2] 25 (0, 0))) ∧ Aside0 (wc.heap[gb419]? = some (.cells #[.int .i64 0, .int .i64 0] 31 (0, 0))) ∧ Aside0 (wc.heap[gb420]? = some (.cells #[.int .i64 1, .int .i64 0] 31 (0, 0))) ∧ Aside0 (Below w.heap.size w wc))
 case first =>
  have H := HC4.out
  clear HC4
  by_cases c15 : a0_2 = true
  ·subst c15
   have H1 : (spec_PairLine.j0 k true a0_0 a0_1 true a1_0 a1_1 a1_2 a2_0 a2_1 a2_2 1 0) = some (r1, r2) := by rw [if_pos rfl] at H; exact H
   clear H
   have H := H1
   clear H1
   have H' := Aside0.mk H
   clear H
   have hnb16 := NB416_417.out
   have hnc16 := NB417_416.out
   have hnb17 := NB416_418.out
   have hnc17 := NB418_416.out
   have hnb18 := NB416_419.out
   have hnc18 := NB419_416.out
   have hnb19 := NB416_420.out
   have hnc19 := NB420_416.out
   have hcz20_0 : w9.cell? ⟨gb416, 0, none⟩ = some (.int .i64 a0_0) := bc BK416 0
   have hcz20_1 : w9.cell? ⟨gb416, 1, none⟩ = some (.int .i64 a0_1) := bc BK416 1
   have hcz20_2 : w9.cell? ⟨gb416, 2, none⟩ = some (.bool true) := bc BK416 2
   have hfz20_0 := blk_frozen BK416.out 0
   have hfz20_1 := blk_frozen BK416.out 1
   have hfz20_2 := blk_frozen BK416.out 2
   go_wp2
   go_meet
   case rel => exact ⟨_, (true), (by first | rfl | (simp; done) | (simp [*]; done)), H', ⟨by first | omega | exact Nat.le_refl _⟩, ⟨bP BK416⟩, ⟨bP BK417⟩, ⟨bP BK418⟩, ⟨bP BK419⟩, ⟨by (with_reducible repeat (first | refine blk_drewN ?_ _ | refine blk_drew ?_ | refine blk_alloc ?_ _)); refine blk_put (cs := #[.int .i64 1, .int .i64 0]) ?_ 1 _ rfl; (with_reducible repeat (first | refine blk_drewN ?_ _ | refine blk_drew ?_ | refine blk_alloc ?_ _)); refine blk_put (cs := #[.int .i64 0, .int .i64 0]) ?_ 0 _ rfl; (with_reducible repeat (first | refine blk_drewN ?_ _ | refine blk_drew ?_ | refine blk_alloc ?_ _)); exact BK420.out⟩, ⟨bZ HB⟩⟩
  ·replace c15 := Bool.eq_false_iff.mpr c15
   subst c15
   have H1 : (if a1_2 = true then (spec_PairLine.j0 k true a0_0 a0_1 false a1_0 a1_1 a1_2 a2_0 a2_1 a2_2 1 0) else (if a2_2 = true then (spec_PairLine.j0 k true a0_0 a0_1 false a1_0 a1_1 a1_2 a2_0 a2_1 a2_2 1 0) else ((spec_PointOk.f a0_0 a0_1 false).bind fun t421 => (if t421 = true then ((spec_PointOk.f a1_0 a1_1 a1_2).bind fun t422 => (if t422 = true then ((spec_PointOk.f a2_0 a2_1 a2_2).bind fun t423 => (spec_PairLine.j0 k (!t423) a0_0 a0_1 false a1_0 a1_1 a1_2 a2_0 a2_1 a2_2 1 0)) else (spec_PairLine.j0 k true a0_0 a0_1 false a1_0 a1_1 a1_2 a2_0 a2_1 a2_2 1 0))) else (spec_PairLine.j0 k true a0_0 a0_1 false a1_0 a1_1 a1_2 a2_0 a2_1 a2_2 1 0))))) = some (r1, r2) := by rw [if_neg (show ¬ (false = true) by decide)] at H; exact H
   clear H
   have H := H1
   clear H1
   by_cases c21 : a1_2 = true
   ·subst c21
    have H1 : (spec_PairLine.j0 k true a0_0 a0_1 false a1_0 a1_1 true a2_0 a2_1 a2_2 1 0) = some (r1, r2) := by rw [if_pos rfl] at H; exact H
    clear H
    have H := H1
    clear H1
    have H' := Aside0.mk H
    clear H
    have hnb22 := NB416_417.out
    have hnc22 := NB417_416.out
    have hnb23 := NB416_418.out
    have hnc23 := NB418_416.out
    have hnb24 := NB416_419.out
    have hnc24 := NB419_416.out
    have hnb25 := NB416_420.out
    have hnc25 := NB420_416.out
    have hcz26_0 : w9.cell? ⟨gb416, 0, none⟩ = some (.int .i64 a0_0) := bc BK416 0
    have hcz26_1 : w9.cell? ⟨gb416, 1, none⟩ = some (.int .i64 a0_1) := bc BK416 1
    have hcz26_2 : w9.cell? ⟨gb416, 2, none⟩ = some (.bool false) := bc BK416 2
    have hfz26_0 := blk_frozen BK416.out 0
    have hfz26_1 := blk_frozen BK416.out 1
    have hfz26_2 := blk_frozen BK416.out 2
    have hnb27 := NB417_418.out
    have hnc27 := NB418_417.out
    have hnb28 := NB417_419.out
    have hnc28 := NB419_417.out
    have hnb29 := NB417_420.out
    have hnc29 := NB420_417.out
    have hcz30_0 : w9.cell? ⟨gb417, 0, none⟩ = some (.int .i64 a1_0) := bc BK417 0
    have hcz30_1 : w9.cell? ⟨gb417, 1, none⟩ = some (.int .i64 a1_1) := bc BK417 1
    have hcz30_2 : w9.cell? ⟨gb417, 2, none⟩ = some (.bool true) := bc BK417 2
    have hfz30_0 := blk_frozen BK417.out 0
    have hfz30_1 := blk_frozen BK417.out 1
    have hfz30_2 := blk_frozen BK417.out 2
    go_wp2
    go_meet
    case rel => exact ⟨_, (true), (by first | rfl | (simp; done) | (simp [*]; done)), H', ⟨by first | omega | exact Nat.le_refl _⟩, ⟨bP BK416⟩, ⟨bP BK417⟩, ⟨bP BK418⟩, ⟨bP BK419⟩, ⟨by (with_reducible repeat (first | refine blk_drewN ?_ _ | refine blk_drew ?_ | refine blk_alloc ?_ _)); refine blk_put (cs := #[.int .i64 1, .int .i64 0]) ?_ 1 _ rfl; (with_reducible repeat (first | refine blk_drewN ?_ _ | refine blk_drew ?_ | refine blk_alloc ?_ _)); refine blk_put (cs := #[.int .i64 0, .int .i64 0]) ?_ 0 _ rfl; (with_reducible repeat (first | refine blk_drewN ?_ _ | refine blk_drew ?_ | refine blk_alloc ?_ _)); exact BK420.out⟩, ⟨bZ HB⟩⟩
   ·replace c21 := Bool.eq_false_iff.mpr c21
    subst c21
    have H1 : (if a2_2 = true then (spec_PairLine.j0 k true a0_0 a0_1 false a1_0 a1_1 false a2_0 a2_1 a2_2 1 0) else ((spec_PointOk.f a0_0 a0_1 false).bind fun t421 => (if t421 = true then ((spec_PointOk.f a1_0 a1_1 false).bind fun t422 => (if t422 = true then ((spec_PointOk.f a2_0 a2_1 a2_2).bind fun t423 => (spec_PairLine.j0 k (!t423) a0_0 a0_1 false a1_0 a1_1 false a2_0 a2_1 a2_2 1 0)) else (spec_PairLine.j0 k true a0_0 a0_1 false a1_0 a1_1 false a2_0 a2_1 a2_2 1 0))) else (spec_PairLine.j0 k true a0_0 a0_1 false a1_0 a1_1 false a2_0 a2_1 a2_2 1 0)))) = some (r1, r2) := by rw [if_neg (show ¬ (false = true) by decide)] at H; exact H
    clear H
    have H := H1
    clear H1
    by_cases c31 : a2_2 = true
    ·subst c31
     have H1 : (spec_PairLine.j0 k true a0_0 a0_1 false a1_0 a1_1 false a2_0 a2_1 true 1 0) = some (r1, r2) := by rw [if_pos rfl] at H; exact H
     clear H
     have H := H1
     clear H1
     have H' := Aside0.mk H
     clear H
     have hnb32 := NB416_417.out
     have hnc32 := NB417_416.out
     have hnb33 := NB416_418.out
     have hnc33 := NB418_416.out
     have hnb34 := NB416_419.out
     have hnc34 := NB419_416.out
     have hnb35 := NB416_420.out
     have hnc35 := NB420_416.out
     have hcz36_0 : w9.cell? ⟨gb416, 0, none⟩ = some (.int .i64 a0_0) := bc BK416 0
     have hcz36_1 : w9.cell? ⟨gb416, 1, none⟩ = some (.int .i64 a0_1) := bc BK416 1
     have hcz36_2 : w9.cell? ⟨gb416, 2, none⟩ = some (.bool false) := bc BK416 2
     have hfz36_0 := blk_frozen BK416.out 0
     have hfz36_1 := blk_frozen BK416.out 1
     have hfz36_2 := blk_frozen BK416.out 2
     have hnb37 := NB417_418.out
     have hnc37 := NB418_417.out
     have hnb38 := NB417_419.out
     have hnc38 := NB419_417.out
     have hnb39 := NB417_420.out
     have hnc39 := NB420_417.out
     have hcz40_0 : w9.cell? ⟨gb417, 0, none⟩ = some (.int .i64 a1_0) := bc BK417 0
     have hcz40_1 : w9.cell? ⟨gb417, 1, none⟩ = some (.int .i64 a1_1) := bc BK417 1
     have hcz40_2 : w9.cell? ⟨gb417, 2, none⟩ = some (.bool false) := bc BK417 2
     have hfz40_0 := blk_frozen BK417.out 0
     have hfz40_1 := blk_frozen BK417.out 1
     have hfz40_2 := blk_frozen BK417.out 2
     have hnb41 := NB418_419.out
     have hnc41 := NB419_418.out
     have hnb42 := NB418_420.out
     have hnc42 := NB420_418.out
     have hcz43_0 : w9.cell? ⟨gb418, 0, none⟩ = some (.int .i64 a2_0) := bc BK418 0
     have hcz43_1 : w9.cell? ⟨gb418, 1, none⟩ = some (.int .i64 a2_1) := bc BK418 1
     have hcz43_2 : w9.cell? ⟨gb418, 2, none⟩ = some (.bool true) := bc BK418 2
     have hfz43_0 := blk_frozen BK418.out 0
     have hfz43_1 := blk_frozen BK418.out 1
     have hfz43_2 := blk_frozen BK418.out 2
     go_wp2
     go_meet
     case rel => exact ⟨_, (true), (by first | rfl | (simp; done) | (simp [*]; done)), H', ⟨by first | omega | exact Nat.le_refl _⟩, ⟨bP BK416⟩, ⟨bP BK417⟩, ⟨bP BK418⟩, ⟨bP BK419⟩, ⟨by (with_reducible repeat (first | refine blk_drewN ?_ _ | refine blk_drew ?_ | refine blk_alloc ?_ _)); refine blk_put (cs := #[.int .i64 1, .int .i64 0]) ?_ 1 _ rfl; (with_reducible repeat (first | refine blk_drewN ?_ _ | refine blk_drew ?_ | refine blk_alloc ?_ _)); refine blk_put (cs := #[.int .i64 0, .int .i64 0]) ?_ 0 _ rfl; (with_reducible repeat (first | refine blk_drewN ?_ _ | refine blk_drew ?_ | refine blk_alloc ?_ _)); exact BK420.out⟩, ⟨bZ HB⟩⟩
    ·replace c31 := Bool.eq_false_iff.mpr c31
     subst c31
     have H1 : ((spec_PointOk.f a0_0 a0_1 false).bind fun t421 => (if t421 = true then ((spec_PointOk.f a1_0 a1_1 false).bind fun t422 => (if t422 = true then ((spec_PointOk.f a2_0 a2_1 false).bind fun t423 => (spec_PairLine.j0 k (!t423) a0_0 a0_1 false a1_0 a1_1 false a2_0 a2_1 false 1 0)) else (spec_PairLine.j0 k true a0_0 a0_1 false a1_0 a1_1 false a2_0 a2_1 false 1 0))) else (spec_PairLine.j0 k true a0_0 a0_1 false a1_0 a1_1 false a2_0 a2_1 false 1 0))) = some (r1, r2) := by rw [if_neg (show ¬ (false = true) by decide)] at H; exact H
     clear H
     have H := H1
     clear H1
     replace H := Option.bind_eq_some_iff.mp H
     obtain ⟨t421, A440, H⟩ := H
     replace H : (if t421 = true then ((spec_PointOk.f a1_0 a1_1 false).bind fun t422 => (if t422 = true then ((spec_PointOk.f a2_0 a2_1 false).bind fun t423 => (spec_PairLine.j0 k (!t423) a0_0 a0_1 false a1_0 a1_1 false a2_0 a2_1 false 1 0)) else (spec_PairLine.j0 k true a0_0 a0_1 false a1_0 a1_1 false a2_0 a2_1 false 1 0))) else (spec_PairLine.j0 k true a0_0 a0_1 false a1_0 a1_1 false a2_0 a2_1 false 1 0)) = some (r1, r2) := H
     have A44 := Aside0.mk A440
     clear A440
     by_cases c45 : t421 = true
     ·subst c45
      have H1 : ((spec_PointOk.f a1_0 a1_1 false).bind fun t422 => (if t422 = true then ((spec_PointOk.f a2_0 a2_1 false).bind fun t423 => (spec_PairLine.j0 k (!t423) a0_0 a0_1 false a1_0 a1_1 false a2_0 a2_1 false 1 0)) else (spec_PairLine.j0 k true a0_0 a0_1 false a1_0 a1_1 false a2_0 a2_1 false 1 0))) = some (r1, r2) := by rw [if_pos rfl] at H; exact H
      clear H
      have H := H1
      clear H1
      replace H := Option.bind_eq_some_iff.mp H
      obtain ⟨t422, A460, H⟩ := H
      replace H : (if t422 = true then ((spec_PointOk.f a2_0 a2_1 false).bind fun t423 => (spec_PairLine.j0 k (!t423) a0_0 a0_1 false a1_0 a1_1 false a2_0 a2_1 false 1 0)) else (spec_PairLine.j0 k true a0_0 a0_1 false a1_0 a1_1 false a2_0 a2_1 false 1 0)) = some (r1, r2) := H
      have A46 := Aside0.mk A460
      clear A460
      by_cases c47 : t422 = true
      ·subst c47
       have H1 : ((spec_PointOk.f a2_0 a2_1 false).bind fun t423 => (spec_PairLine.j0 k (!t423) a0_0 a0_1 false a1_0 a1_1 false a2_0 a2_1 false 1 0)) = some (r1, r2) := by rw [if_pos rfl] at H; exact H
       clear H
       have H := H1
       clear H1
       replace H := Option.bind_eq_some_iff.mp H
       obtain ⟨t423, A480, H⟩ := H
       replace H : (spec_PairLine.j0 k (!t423) a0_0 a0_1 false a1_0 a1_1 false a2_0 a2_1 false 1 0) = some (r1, r2) := H
       have A48 := Aside0.mk A480
       clear A480
       have H' := Aside0.mk H
       clear H
       have hnb49 := NB416_417.out
       have hnc49 := NB417_416.out
       have hnb50 := NB416_418.out
       have hnc50 := NB418_416.out
       have hnb51 := NB416_419.out
       have hnc51 := NB419_416.out
       have hnb52 := NB416_420.out
       have hnc52 := NB420_416.out
       have hcz53_0 : w9.cell? ⟨gb416, 0, none⟩ = some (.int .i64 a0_0) := bc BK416 0
       have hcz53_1 : w9.cell? ⟨gb416, 1, none⟩ = some (.int .i64 a0_1) := bc BK416 1
       have hcz53_2 : w9.cell? ⟨gb416, 2, none⟩ = some (.bool false) := bc BK416 2
       have hfz53_0 := blk_frozen BK416.out 0
       have hfz53_1 := blk_frozen BK416.out 1
       have hfz53_2 := blk_frozen BK416.out 2
       have hnb54 := NB417_418.out
       have hnc54 := NB418_417.out
       have hnb55 := NB417_419.out
       have hnc55 := NB419_417.out
       have hnb56 := NB417_420.out
       have hnc56 := NB420_417.out
       have hcz57_0 : w9.cell? ⟨gb417, 0, none⟩ = some (.int .i64 a1_0) := bc BK417 0
       have hcz57_1 : w9.cell? ⟨gb417, 1, none⟩ = some (.int .i64 a1_1) := bc BK417 1
       have hcz57_2 : w9.cell? ⟨gb417, 2, none⟩ = some (.bool false) := bc BK417 2
       have hfz57_0 := blk_frozen BK417.out 0
       have hfz57_1 := blk_frozen BK417.out 1
       have hfz57_2 := blk_frozen BK417.out 2
       have hnb58 := NB418_419.out
       have hnc58 := NB419_418.out
       have hnb59 := NB418_420.out
       have hnc59 := NB420_418.out
       have hcz60_0 : w9.cell? ⟨gb418, 0, none⟩ = some (.int .i64 a2_0) := bc BK418 0
       have hcz60_1 : w9.cell? ⟨gb418, 1, none⟩ = some (.int .i64 a2_1) := bc BK418 1
       have hcz60_2 : w9.cell? ⟨gb418, 2, none⟩ = some (.bool false) := bc BK418 2
       have hfz60_0 := blk_frozen BK418.out 0
       have hfz60_1 := blk_frozen BK418.out 1
       have hfz60_2 := blk_frozen BK418.out 2
       go_wp2_with (first | (go_at_call 55; (with_reducible refine (spec_PointOk.calls a0_0 a0_1 false true _ A44.out).mono ?_); rintro e w61 ⟨rfl, hb⟩; replace BK416 := bB BK416 hb; replace BK417 := bB BK417 hb; replace BK418 := bB BK418 hb; replace BK419 := bB BK419 hb; replace BK420 := Aside0.mk (blk_below (g := gb420) (o := .cells #[.int .i64 1, .int .i64 0] 31 (0, 0)) (by (with_reducible repeat (first | refine blk_drewN ?_ _ | refine blk_drew ?_ | refine blk_alloc ?_ _)); refine blk_put (cs := #[.int .i64 1, .int .i64 0]) ?_ 1 _ rfl; (with_reducible repeat (first | refine blk_drewN ?_ _ | refine blk_drew ?_ | refine blk_alloc ?_ _)); refine blk_put (cs := #[.int .i64 0, .int .i64 0]) ?_ 0 _ rfl; (with_reducible repeat (first | refine blk_drewN ?_ _ | refine blk_drew ?_ | refine blk_alloc ?_ _)); exact BK420.out) hb); replace HB := bS HB hb; (try clear hb); (try clear hb2); (try clear hk); (try clear hi); have hcz62_0 : w61.cell? ⟨gb417, 0, none⟩ = some (.int .i64 a1_0) := bc BK417 0; have hcz62_1 : w61.cell? ⟨gb417, 1, none⟩ = some (.int .i64 a1_1) := bc BK417 1; have hcz62_2 : w61.cell? ⟨gb417, 2, none⟩ = some (.bool false) := bc BK417 2; have hfz62_0 := blk_frozen BK417.out 0; have hfz62_1 := blk_frozen BK417.out 1; have hfz62_2 := blk_frozen BK417.out 2) | (go_at_call 55; (with_reducible refine (spec_PointOk.calls a1_0 a1_1 false true _ A46.out).mono ?_); rintro e w63 ⟨rfl, hb⟩; replace BK416 := bB BK416 hb; replace BK417 := bB BK417 hb; replace BK418 := bB BK418 hb; replace BK419 := bB BK419 hb; replace BK420 := bB BK420 hb; replace HB := bS HB hb; (try clear hb); (try clear hb2); (try clear hk); (try clear hi); have hcz64_0 : w63.cell? ⟨gb418, 0, none⟩ = some (.int .i64 a2_0) := bc BK418 0; have hcz64_1 : w63.cell? ⟨gb418, 1, none⟩ = some (.int .i64 a2_1) := bc BK418 1; have hcz64_2 : w63.cell? ⟨gb418, 2, none⟩ = some (.bool false) := bc BK418 2; have hfz64_0 := blk_frozen BK418.out 0; have hfz64_1 := blk_frozen BK418.out 1; have hfz64_2 := blk_frozen BK418.out 2) | (go_at_call 55; (with_reducible refine (spec_PointOk.calls a2_0 a2_1 false t423 _ A48.out).mono ?_); rintro e w65 ⟨rfl, hb⟩; replace BK416 := bB BK416 hb; replace BK417 := bB BK417 hb; replace BK418 := bB BK418 hb; replace BK419 := bB BK419 hb; replace BK420 := bB BK420 hb; replace HB := bS HB hb; (try clear hb); (try clear hb2); (try clear hk); (try clear hi)))
       go_meet
       case rel => exact ⟨_, (!t423), (by first | rfl | (simp; done) | (simp [*]; done)), H', ⟨by first | omega | exact Nat.le_refl _⟩, ⟨bP BK416⟩, ⟨bP BK417⟩, ⟨bP BK418⟩, ⟨bP BK419⟩, ⟨bP BK420⟩, ⟨bZ HB⟩⟩
      ·replace c47 := Bool.eq_false_iff.mpr c47
       subst c47
       have H1 : (spec_PairLine.j0 k true a0_0 a0_1 false a1_0 a1_1 false a2_0 a2_1 false 1 0) = some (r1, r2) := by rw [if_neg (show ¬ (false = true) by decide)] at H; exact H
       clear H
       have H := H1
       clear H1
       have H' := Aside0.mk H
       clear H
       have hnb66 := NB416_417.out
       have hnc66 := NB417_416.out
       have hnb67 := NB416_418.out
       have hnc67 := NB418_416.out
       have hnb68 := NB416_419.out
       have hnc68 := NB419_416.out
       have hnb69 := NB416_420.out
       have hnc69 := NB420_416.out
       have hcz70_0 : w9.cell? ⟨gb416, 0, none⟩ = some (.int .i64 a0_0) := bc BK416 0
       have hcz70_1 : w9.cell? ⟨gb416, 1, none⟩ = some (.int .i64 a0_1) := bc BK416 1
       have hcz70_2 : w9.cell? ⟨gb416, 2, none⟩ = some (.bool false) := bc BK416 2
       have hfz70_0 := blk_frozen BK416.out 0
       have hfz70_1 := blk_frozen BK416.out 1
       have hfz70_2 := blk_frozen BK416.out 2
       have hnb71 := NB417_418.out
       have hnc71 := NB418_417.out
       have hnb72 := NB417_419.out
       have hnc72 := NB419_417.out
       have hnb73 := NB417_420.out
       have hnc73 := NB420_417.out
       have hcz74_0 : w9.cell? ⟨gb417, 0, none⟩ = some (.int .i64 a1_0) := bc BK417 0
       have hcz74_1 : w9.cell? ⟨gb417, 1, none⟩ = some (.int .i64 a1_1) := bc BK417 1
       have hcz74_2 : w9.cell? ⟨gb417, 2, none⟩ = some (.bool false) := bc BK417 2
       have hfz74_0 := blk_frozen BK417.out 0
       have hfz74_1 := blk_frozen BK417.out 1
       have hfz74_2 := blk_frozen BK417.out 2
       have hnb75 := NB418_419.out
       have hnc75 := NB419_418.out
       have hnb76 := NB418_420.out
       have hnc76 := NB420_418.out
       have hcz77_0 : w9.cell? ⟨gb418, 0, none⟩ = some (.int .i64 a2_0) := bc BK418 0
       have hcz77_1 : w9.cell? ⟨gb418, 1, none⟩ = some (.int .i64 a2_1) := bc BK418 1
       have hcz77_2 : w9.cell? ⟨gb418, 2, none⟩ = some (.bool false) := bc BK418 2
       have hfz77_0 := blk_frozen BK418.out 0
       have hfz77_1 := blk_frozen BK418.out 1
       have hfz77_2 := blk_frozen BK418.out 2
       go_wp2_with (first | (go_at_call 55; (with_reducible refine (spec_PointOk.calls a0_0 a0_1 false true _ A44.out).mono ?_); rintro e w78 ⟨rfl, hb⟩; replace BK416 := bB BK416 hb; replace BK417 := bB BK417 hb; replace BK418 := bB BK418 hb; replace BK419 := bB BK419 hb; replace BK420 := Aside0.mk (blk_below (g := gb420) (o := .cells #[.int .i64 1, .int .i64 0] 31 (0, 0)) (by (with_reducible repeat (first | refine blk_drewN ?_ _ | refine blk_drew ?_ | refine blk_alloc ?_ _)); refine blk_put (cs := #[.int .i64 1, .int .i64 0]) ?_ 1 _ rfl; (with_reducible repeat (first | refine blk_drewN ?_ _ | refine blk_drew ?_ | refine blk_alloc ?_ _)); refine blk_put (cs := #[.int .i64 0, .int .i64 0]) ?_ 0 _ rfl; (with_reducible repeat (first | refine blk_drewN ?_ _ | refine blk_drew ?_ | refine blk_alloc ?_ _)); exact BK420.out) hb); replace HB := bS HB hb; (try clear hb); (try clear hb2); (try clear hk); (try clear hi); have hcz79_0 : w78.cell? ⟨gb417, 0, none⟩ = some (.int .i64 a1_0) := bc BK417 0; have hcz79_1 : w78.cell? ⟨gb417, 1, none⟩ = some (.int .i64 a1_1) := bc BK417 1; have hcz79_2 : w78.cell? ⟨gb417, 2, none⟩ = some (.bool false) := bc BK417 2; have hfz79_0 := blk_frozen BK417.out 0; have hfz79_1 := blk_frozen BK417.out 1; have hfz79_2 := blk_frozen BK417.out 2) | (go_at_call 55; (with_reducible refine (spec_PointOk.calls a1_0 a1_1 false false _ A46.out).mono ?_); rintro e w80 ⟨rfl, hb⟩; replace BK416 := bB BK416 hb; replace BK417 := bB BK417 hb; replace BK418 := bB BK418 hb; replace BK419 := bB BK419 hb; replace BK420 := bB BK420 hb; replace HB := bS HB hb; (try clear hb); (try clear hb2); (try clear hk); (try clear hi)))
       go_meet
       case rel => exact ⟨_, (true), (by first | rfl | (simp; done) | (simp [*]; done)), H', ⟨by first | omega | exact Nat.le_refl _⟩, ⟨bP BK416⟩, ⟨bP BK417⟩, ⟨bP BK418⟩, ⟨bP BK419⟩, ⟨bP BK420⟩, ⟨bZ HB⟩⟩
     ·replace c45 := Bool.eq_false_iff.mpr c45
      subst c45
      have H1 : (spec_PairLine.j0 k true a0_0 a0_1 false a1_0 a1_1 false a2_0 a2_1 false 1 0) = some (r1, r2) := by rw [if_neg (show ¬ (false = true) by decide)] at H; exact H
      clear H
      have H := H1
      clear H1
      have H' := Aside0.mk H
      clear H
      have hnb81 := NB416_417.out
      have hnc81 := NB417_416.out
      have hnb82 := NB416_418.out
      have hnc82 := NB418_416.out
      have hnb83 := NB416_419.out
      have hnc83 := NB419_416.out
      have hnb84 := NB416_420.out
      have hnc84 := NB420_416.out
      have hcz85_0 : w9.cell? ⟨gb416, 0, none⟩ = some (.int .i64 a0_0) := bc BK416 0
      have hcz85_1 : w9.cell? ⟨gb416, 1, none⟩ = some (.int .i64 a0_1) := bc BK416 1
      have hcz85_2 : w9.cell? ⟨gb416, 2, none⟩ = some (.bool false) := bc BK416 2
      have hfz85_0 := blk_frozen BK416.out 0
      have hfz85_1 := blk_frozen BK416.out 1
      have hfz85_2 := blk_frozen BK416.out 2
      have hnb86 := NB417_418.out
      have hnc86 := NB418_417.out
      have hnb87 := NB417_419.out
      have hnc87 := NB419_417.out
      have hnb88 := NB417_420.out
      have hnc88 := NB420_417.out
      have hcz89_0 : w9.cell? ⟨gb417, 0, none⟩ = some (.int .i64 a1_0) := bc BK417 0
      have hcz89_1 : w9.cell? ⟨gb417, 1, none⟩ = some (.int .i64 a1_1) := bc BK417 1
      have hcz89_2 : w9.cell? ⟨gb417, 2, none⟩ = some (.bool false) := bc BK417 2
      have hfz89_0 := blk_frozen BK417.out 0
      have hfz89_1 := blk_frozen BK417.out 1
      have hfz89_2 := blk_frozen BK417.out 2
      have hnb90 := NB418_419.out
      have hnc90 := NB419_418.out
      have hnb91 := NB418_420.out
      have hnc91 := NB420_418.out
      have hcz92_0 : w9.cell? ⟨gb418, 0, none⟩ = some (.int .i64 a2_0) := bc BK418 0
      have hcz92_1 : w9.cell? ⟨gb418, 1, none⟩ = some (.int .i64 a2_1) := bc BK418 1
      have hcz92_2 : w9.cell? ⟨gb418, 2, none⟩ = some (.bool false) := bc BK418 2
      have hfz92_0 := blk_frozen BK418.out 0
      have hfz92_1 := blk_frozen BK418.out 1
      have hfz92_2 := blk_frozen BK418.out 2
      go_wp2_with (first | (go_at_call 55; (with_reducible refine (spec_PointOk.calls a0_0 a0_1 false false _ A44.out).mono ?_); rintro e w93 ⟨rfl, hb⟩; replace BK416 := bB BK416 hb; replace BK417 := bB BK417 hb; replace BK418 := bB BK418 hb; replace BK419 := bB BK419 hb; replace BK420 := Aside0.mk (blk_below (g := gb420) (o := .cells #[.int .i64 1, .int .i64 0] 31 (0, 0)) (by (with_reducible repeat (first | refine blk_drewN ?_ _ | refine blk_drew ?_ | refine blk_alloc ?_ _)); refine blk_put (cs := #[.int .i64 1, .int .i64 0]) ?_ 1 _ rfl; (with_reducible repeat (first | refine blk_drewN ?_ _ | refine blk_drew ?_ | refine blk_alloc ?_ _)); refine blk_put (cs := #[.int .i64 0, .int .i64 0]) ?_ 0 _ rfl; (with_reducible repeat (first | refine blk_drewN ?_ _ | refine blk_drew ?_ | refine blk_alloc ?_ _)); exact BK420.out) hb); replace HB := bS HB hb; (try clear hb); (try clear hb2); (try clear hk); (try clear hi)))
      go_meet
      case rel => exact ⟨_, (true), (by first | rfl | (simp; done) | (simp [*]; done)), H', ⟨by first | omega | exact Nat.le_refl _⟩, ⟨bP BK416⟩, ⟨bP BK417⟩, ⟨bP BK418⟩, ⟨bP BK419⟩, ⟨bP BK420⟩, ⟨bZ HB⟩⟩
 case rest =>
  clear HC4
  try clear c1
  try clear c2
  try clear p2
  try clear c3
  try clear c4
  try clear c5
  try clear c6
  try clear c7
  try clear c8
  try clear c9
  try clear c10
  try clear c11
  try clear c12
  try clear c13
  try clear c15
  try clear c16
  try clear c17
  try clear c18
  try clear c19
  try clear c21
  try clear c22
  try clear c23
  try clear c24
  try clear c25
  try clear c27
  try clear c28
  try clear c29
  try clear c31
  try clear c32
  try clear c33
  try clear c34
  try clear c35
  try clear c37
  try clear c38
  try clear c39
  try clear c41
  try clear c42
  try clear c45
  try clear c47
  try clear c49
  try clear c50
  try clear c51
  try clear c52
  try clear c54
  try clear c55
  try clear c56
  try clear c58
  try clear c59
  try clear c66
  try clear c67
  try clear c68
  try clear c69
  try clear c71
  try clear c72
  try clear c73
  try clear c75
  try clear c76
  try clear c81
  try clear c82
  try clear c83
  try clear c84
  try clear c86
  try clear c87
  try clear c88
  try clear c90
  try clear c91
  try clear hcz14_0
  try clear hcz14_1
  try clear hcz20_0
  try clear hcz20_1
  try clear hcz20_2
  try clear hcz26_0
  try clear hcz26_1
  try clear hcz26_2
  try clear hcz30_0
  try clear hcz30_1
  try clear hcz30_2
  try clear hcz36_0
  try clear hcz36_1
  try clear hcz36_2
  try clear hcz40_0
  try clear hcz40_1
  try clear hcz40_2
  try clear hcz43_0
  try clear hcz43_1
  try clear hcz43_2
  try clear hcz53_0
  try clear hcz53_1
  try clear hcz53_2
  try clear hcz57_0
  try clear hcz57_1
  try clear hcz57_2
  try clear hcz60_0
  try clear hcz60_1
  try clear hcz60_2
  try clear hcz62_0
  try clear hcz62_1
  try clear hcz62_2
  try clear hcz64_0
  try clear hcz64_1
  try clear hcz64_2
  try clear hcz70_0
  try clear hcz70_1
  try clear hcz70_2
  try clear hcz74_0
  try clear hcz74_1
  try clear hcz74_2
  try clear hcz77_0
  try clear hcz77_1
  try clear hcz77_2
  try clear hcz79_0
  try clear hcz79_1
  try clear hcz79_2
  try clear hcz85_0
  try clear hcz85_1
  try clear hcz85_2
  try clear hcz89_0
  try clear hcz89_1
  try clear hcz89_2
  try clear hcz92_0
  try clear hcz92_1
  try clear hcz92_2
  try clear hfz14_0
  try clear hfz14_1
  try clear hfz20_0
  try clear hfz20_1
  try clear hfz20_2
  try clear hfz26_0
  try clear hfz26_1
  try clear hfz26_2
  try clear hfz30_0
  try clear hfz30_1
  try clear hfz30_2
  try clear hfz36_0
  try clear hfz36_1
  try clear hfz36_2
  try clear hfz40_0
  try clear hfz40_1
  try clear hfz40_2
  try clear hfz43_0
  try clear hfz43_1
  try clear hfz43_2
  try clear hfz53_0
  try clear hfz53_1
  try clear hfz53_2
  try clear hfz57_0
  try clear hfz57_1
  try clear hfz57_2
  try clear hfz60_0
  try clear hfz60_1
  try clear hfz60_2
  try clear hfz62_0
  try clear hfz62_1
  try clear hfz62_2
  try clear hfz64_0
  try clear hfz64_1
  try clear hfz64_2
  try clear hfz70_0
  try clear hfz70_1
  try clear hfz70_2
  try clear hfz74_0
  try clear hfz74_1
  try clear hfz74_2
  try clear hfz77_0
  try clear hfz77_1
  try clear hfz77_2
  try clear hfz79_0
  try clear hfz79_1
  try clear hfz79_2
  try clear hfz85_0
  try clear hfz85_1
  try clear hfz85_2
  try clear hfz89_0
  try clear hfz89_1
  try clear hfz89_2
  try clear hfz92_0
  try clear hfz92_1
  try clear hfz92_2
  obtain ⟨kq, x36_3, rfl, HA, HJ3, BK416, BK417, BK418, BK419, BK420, HB⟩ := hcut
  cases kq with
  | zero => exact absurd HA.out (by simp [spec_PairLine.j0])
  | succ kj3 =>
   have H := HA.out
   clear HA
   simp only [spec_PairLine.j0] at H
   by_cases c94 : x36_3 = true
   ·subst c94
    have H1 : (some (1, 0)) = some (r1, r2) := by rw [if_pos rfl] at H; exact H
    clear H
    have H := H1
    clear H1
    simp only [Option.some.injEq, Prod.mk.injEq] at H
    obtain ⟨rfl, rfl⟩ := H
    have hnb95 := NB420_416.out
    have hnc95 := NB416_420.out
    have hnb96 := NB420_417.out
    have hnc96 := NB417_420.out
    have hnb97 := NB420_418.out
    have hnc97 := NB418_420.out
    have hnb98 := NB420_419.out
    have hnc98 := NB419_420.out
    have hcz99_0 : wc.cell? ⟨gb420, 0, none⟩ = some (.int .i64 1) := bc BK420 0
    have hcz99_1 : wc.cell? ⟨gb420, 1, none⟩ = some (.int .i64 0) := bc BK420 1
    have hfz99_0 := blk_frozen BK420.out 0
    have hfz99_1 := blk_frozen BK420.out 1
    have hnb100 := NB419_416.out
    have hnc100 := NB416_419.out
    have hnb101 := NB419_417.out
    have hnc101 := NB417_419.out
    have hnb102 := NB419_418.out
    have hnc102 := NB418_419.out
    have hcz103_0 : wc.cell? ⟨gb419, 0, none⟩ = some (.int .i64 0) := bc BK419 0
    have hcz103_1 : wc.cell? ⟨gb419, 1, none⟩ = some (.int .i64 0) := bc BK419 1
    have hfz103_0 := blk_frozen BK419.out 0
    have hfz103_1 := blk_frozen BK419.out 1
    go_wp2
    refine bodyPost_ret (results_cell_row rfl _ _ gb419 31 #[.int .i64 1, .int .i64 0] (0, 0) _ rfl (by (with_reducible repeat (first | refine blk_drewN ?_ _ | refine blk_drew ?_ | refine blk_alloc ?_ _)); refine blk_put (cs := #[.int .i64 1, .int .i64 0]) ?_ 1 _ rfl; (with_reducible repeat (first | refine blk_drewN ?_ _ | refine blk_drew ?_ | refine blk_alloc ?_ _)); refine blk_put (cs := #[.int .i64 0, .int .i64 0]) ?_ 0 _ rfl; (with_reducible repeat (first | refine blk_drewN ?_ _ | refine blk_drew ?_ | refine blk_alloc ?_ _)); exact BK419.out) Try.underlying31 rfl (by kernel_rfl)) rfl ?_
    exact ⟨by first | rfl | (simp [errW_none, errW_some] <;> rfl) | (simp [*, errW_none, errW_some] <;> rfl), bZ HB⟩
   ·replace c94 := Bool.eq_false_iff.mpr c94
    subst c94
    have H1 : ((spec_l07Slope.f kj3 a0_0 a0_1 a0_2 a1_0 a1_1 a1_2).bind fun bt424 => (if bt424.2 = true then ((spec_FpSub.f 0 a2_0).bind fun t426 => ((spec_FpSub.f t426 a0_0).bind fun t427 => ((spec_FpSub.f 0 a0_1).bind fun t428 => ((spec_FpMul.f bt424.1 t427).bind fun t429 => ((spec_FpSub.f t428 t429).bind fun t430 => (some (t430, a2_1))))))) else (some (1, 0)))) = some (r1, r2) := by rw [if_neg (show ¬ (false = true) by decide)] at H; exact H
    clear H
    have H := H1
    clear H1
    replace H := Option.bind_eq_some_iff.mp H
    obtain ⟨⟨t424, t425⟩, A1040, H⟩ := H
    replace H : (if t425 = true then ((spec_FpSub.f 0 a2_0).bind fun t426 => ((spec_FpSub.f t426 a0_0).bind fun t427 => ((spec_FpSub.f 0 a0_1).bind fun t428 => ((spec_FpMul.f t424 t427).bind fun t429 => ((spec_FpSub.f t428 t429).bind fun t430 => (some (t430, a2_1))))))) else (some (1, 0))) = some (r1, r2) := H
    have A104 := Aside0.mk A1040
    clear A1040
    by_cases c105 : t425 = true
    ·subst c105
     have H1 : ((spec_FpSub.f 0 a2_0).bind fun t426 => ((spec_FpSub.f t426 a0_0).bind fun t427 => ((spec_FpSub.f 0 a0_1).bind fun t428 => ((spec_FpMul.f t424 t427).bind fun t429 => ((spec_FpSub.f t428 t429).bind fun t430 => (some (t430, a2_1))))))) = some (r1, r2) := by rw [if_pos rfl] at H; exact H
     clear H
     have H := H1
     clear H1
     replace H := Option.bind_eq_some_iff.mp H
     obtain ⟨t426, A1060, H⟩ := H
     replace H : ((spec_FpSub.f t426 a0_0).bind fun t427 => ((spec_FpSub.f 0 a0_1).bind fun t428 => ((spec_FpMul.f t424 t427).bind fun t429 => ((spec_FpSub.f t428 t429).bind fun t430 => (some (t430, a2_1)))))) = some (r1, r2) := H
     have A106 := Aside0.mk A1060
     clear A1060
     replace H := Option.bind_eq_some_iff.mp H
     obtain ⟨t427, A1070, H⟩ := H
     replace H : ((spec_FpSub.f 0 a0_1).bind fun t428 => ((spec_FpMul.f t424 t427).bind fun t429 => ((spec_FpSub.f t428 t429).bind fun t430 => (some (t430, a2_1))))) = some (r1, r2) := H
     have A107 := Aside0.mk A1070
     clear A1070
     replace H := Option.bind_eq_some_iff.mp H
     obtain ⟨t428, A1080, H⟩ := H
     replace H : ((spec_FpMul.f t424 t427).bind fun t429 => ((spec_FpSub.f t428 t429).bind fun t430 => (some (t430, a2_1)))) = some (r1, r2) := H
     have A108 := Aside0.mk A1080
     clear A1080
     replace H := Option.bind_eq_some_iff.mp H
     obtain ⟨t429, A1090, H⟩ := H
     replace H : ((spec_FpSub.f t428 t429).bind fun t430 => (some (t430, a2_1))) = some (r1, r2) := H
     have A109 := Aside0.mk A1090
     clear A1090
     replace H := Option.bind_eq_some_iff.mp H
     obtain ⟨t430, A1100, H⟩ := H
     replace H : (some (t430, a2_1)) = some (r1, r2) := H
     have A110 := Aside0.mk A1100
     clear A1100
     simp only [Option.some.injEq, Prod.mk.injEq] at H
     obtain ⟨rfl, rfl⟩ := H
     have hnb111 := NB416_417.out
     have hnc111 := NB417_416.out
     have hnb112 := NB416_418.out
     have hnc112 := NB418_416.out
     have hnb113 := NB416_419.out
     have hnc113 := NB419_416.out
     have hnb114 := NB416_420.out
     have hnc114 := NB420_416.out
     have hcz115_0 : wc.cell? ⟨gb416, 0, none⟩ = some (.int .i64 a0_0) := bc BK416 0
     have hcz115_1 : wc.cell? ⟨gb416, 1, none⟩ = some (.int .i64 a0_1) := bc BK416 1
     have hcz115_2 : wc.cell? ⟨gb416, 2, none⟩ = some (.bool a0_2) := bc BK416 2
     have hfz115_0 := blk_frozen BK416.out 0
     have hfz115_1 := blk_frozen BK416.out 1
     have hfz115_2 := blk_frozen BK416.out 2
     have hnb116 := NB417_418.out
     have hnc116 := NB418_417.out
     have hnb117 := NB417_419.out
     have hnc117 := NB419_417.out
     have hnb118 := NB417_420.out
     have hnc118 := NB420_417.out
     have hcz119_0 : wc.cell? ⟨gb417, 0, none⟩ = some (.int .i64 a1_0) := bc BK417 0
     have hcz119_1 : wc.cell? ⟨gb417, 1, none⟩ = some (.int .i64 a1_1) := bc BK417 1
     have hcz119_2 : wc.cell? ⟨gb417, 2, none⟩ = some (.bool a1_2) := bc BK417 2
     have hfz119_0 := blk_frozen BK417.out 0
     have hfz119_1 := blk_frozen BK417.out 1
     have hfz119_2 := blk_frozen BK417.out 2
     try go_wp2_with (first | ((with_reducible refine gate_callee (f := 74) rfl ?_); refine goesL_ (some 41) rfl rfl Try.func74 (by kernel_rfl) rfl #[.agg #[.int .i64 a0_0, .int .i64 a0_1, .bool a0_2], .agg #[.int .i64 a1_0, .int .i64 a1_1, .bool a1_2]] rfl (by (try simp only [List.map_toArray, List.map_cons, List.map_nil]); first | done | rfl | (simp only [List.length_drop, List.length_take]; rfl)) ?_; (with_reducible refine (spec_l07Slope.calls kj3 a0_0 a0_1 a0_2 a1_0 a1_1 a1_2 t424 true _ A104.out).mono ?_); rintro e w120 ⟨rfl, hb⟩; refine ⟨_, rfl, ?_⟩; replace BK416 := bB BK416 hb; replace BK417 := bB BK417 hb; replace BK418 := bB BK418 hb; replace BK419 := bB BK419 hb; replace BK420 := bB BK420 hb; replace HB := bS HB hb; (try clear hb); (try clear hb2); (try clear hk); (try clear hi)))
     replace BK416 := Aside0.mk (blk_drew BK416.out)
     replace BK417 := Aside0.mk (blk_drew BK417.out)
     replace BK418 := Aside0.mk (blk_drew BK418.out)
     replace BK419 := Aside0.mk (blk_drew BK419.out)
     replace BK420 := Aside0.mk (blk_drew BK420.out)
     replace HB := Aside0.mk (below_drew1 HB.out)
     refine start_ (n := 7) (S := fun w' => w'.cell? ⟨gb418, 0, none⟩ = some (.int .i64 a2_0) ∧ w'.cell? ⟨gb418, 1, none⟩ = some (.int .i64 a2_1) ∧ w'.cell? ⟨gb418, 2, none⟩ = some (.bool a2_2) ∧ w'.cell? ⟨gb416, 0, none⟩ = some (.int .i64 a0_0) ∧ w'.cell? ⟨gb416, 1, none⟩ = some (.int .i64 a0_1) ∧ w'.cell? ⟨gb416, 2, none⟩ = some (.bool a0_2)) (ds := []) #[false, false, false, false, false, false, false] (by kernel_rfl) rfl rfl ⟨bc BK418 0, bc BK418 1, bc BK418 2, bc BK416 0, bc BK416 1, bc BK416 2⟩ (fun hHeld => ?_)
     generalize w120.drew = w121 at BK416 BK417 BK418 BK419 BK420 HB hHeld ⊢
     refine pure_ (i := 0) (N := some 47) (v := ?_) (a' := ?_) #[true, false, false, false, false, false, false] rfl rfl (by kernel_rfl) (fun _ _ _ h => h) (Or.inl ⟨by rfl, ?_⟩) ?_ ?_
     rotate_left
     ·intro w'
      go_simp
      with_reducible rfl
     rotate_left
     ·simp only [Act.put, List.setIfInBounds_toArray, List.set_cons_zero, List.set_cons_succ, i64_w, i32_w]
      rfl
     refine pure_ (i := 3) (N := some 50) (v := ?_) (a' := ?_) #[true, false, false, true, false, false, false] rfl rfl (by kernel_rfl) (fun _ _ _ h => h) (Or.inl ⟨by rfl, ?_⟩) ?_ ?_
     rotate_left
     ·intro w'
      go_simp
      with_reducible rfl
     rotate_left
     ·simp only [Act.put, List.setIfInBounds_toArray, List.set_cons_zero, List.set_cons_succ, i64_w, i32_w]
      rfl
     refine take_ (i := 1) (N := some 48) (v := ?_) (a' := ?_) #[true, true, false, true, false, false, false] rfl rfl (by kernel_rfl) (fun _ _ _ h => h) (Or.inl ⟨by rfl, ?_⟩) hHeld ?_ ?_
     rotate_left
     ·rintro w' ⟨s0, s1, s2, s3, s4, s5⟩
      go_simp
      with_reducible rfl
     rotate_left
     ·simp only [Act.put, List.setIfInBounds_toArray, List.set_cons_zero, List.set_cons_succ, i64_w, i32_w]
      rfl
     refine take_ (i := 4) (N := some 51) (v := ?_) (a' := ?_) #[true, true, false, true, true, false, false] rfl rfl (by kernel_rfl) (fun _ _ _ h => h) (Or.inl ⟨by rfl, ?_⟩) hHeld ?_ ?_
     rotate_left
     ·rintro w' ⟨s0, s1, s2, s3, s4, s5⟩
      go_simp
      with_reducible rfl
     rotate_left
     ·simp only [Act.put, List.setIfInBounds_toArray, List.set_cons_zero, List.set_cons_succ, i64_w, i32_w]
      rfl
     refine one_ (i := 2) (N := some 49) #[true, true, true, true, true, false, false] rfl rfl (by kernel_rfl) (by decide) (fun K hK => ?_)
     refine goes_ Try.func75 (by kernel_rfl) rfl #[.int .i64 0, .int .i64 a2_0] (by rfl) rfl rfl (by (try simp only [List.map_toArray, List.map_cons, List.map_nil]); first | done | rfl | (simp only [List.length_drop, List.length_take]; rfl)) ?_
     with_reducible refine (spec_FpSub.calls 0 a2_0 t426 _ A106.out).mono ?_
     rintro e w' ⟨rfl, ⟨nd, rfl⟩⟩
     refine ⟨_, rfl, ?_⟩
     refine hK.out _ _ ⟨bc BK418 0, bc BK418 1, bc BK418 2, bc BK416 0, bc BK416 1, bc BK416 2⟩ (fun hHeld => ?_)
     clear hK K
     refine norm_ (a' := ?_) ?_ ?_
     rotate_left
     ·show Act.put _ (some 49) _ = _
      simp only [Act.put, List.setIfInBounds_toArray, List.set_cons_zero, List.set_cons_succ, i64_w, i32_w]
      rfl
     refine one_ (i := 5) (N := some 52) #[true, true, true, true, true, true, false] rfl rfl (by kernel_rfl) (by decide) (fun K hK => ?_)
     refine goes_ Try.func75 (by kernel_rfl) rfl #[.int .i64 t426, .int .i64 a0_0] (by rfl) rfl rfl (by (try simp only [List.map_toArray, List.map_cons, List.map_nil]); first | done | rfl | (simp only [List.length_drop, List.length_take]; rfl)) ?_
     with_reducible refine (spec_FpSub.calls t426 a0_0 t427 _ A107.out).mono ?_
     rintro e w' ⟨rfl, ⟨nd, rfl⟩⟩
     refine ⟨_, rfl, ?_⟩
     refine hK.out _ _ ⟨bc BK418 0, bc BK418 1, bc BK418 2, bc BK416 0, bc BK416 1, bc BK416 2⟩ (fun hHeld => ?_)
     clear hK K
     refine norm_ (a' := ?_) ?_ ?_
     rotate_left
     ·show Act.put _ (some 52) _ = _
      simp only [Act.put, List.setIfInBounds_toArray, List.set_cons_zero, List.set_cons_succ, i64_w, i32_w]
      rfl
     refine pure_ (i := 6) (N := some 10) (v := ?_) (a' := ?_) #[true, true, true, true, true, true, true] rfl rfl (by kernel_rfl) (fun _ _ _ h => h) (Or.inl ⟨by rfl, ?_⟩) ?_ ?_
     rotate_left
     ·intro w'
      go_simp
      with_reducible rfl
     rotate_left
     ·simp only [Act.put, List.setIfInBounds_toArray, List.set_cons_zero, List.set_cons_succ, i64_w, i32_w]
      rfl
     refine done_ (by kernel_rfl) ?_
     try go_wp2
     (try simp only [World.drewN_drewN]); (try (rw [drewN_self w121]; generalize hq_ : World.drewN w121 _ = w121; replace BK416 : Aside0 (w121.heap[gb416]? = some (.cells #[.int .i64 a0_0, .int .i64 a0_1, .bool a0_2] 25 (0, 0))) := ⟨by rw [← hq_]; exact (bP BK416)⟩; replace BK417 : Aside0 (w121.heap[gb417]? = some (.cells #[.int .i64 a1_0, .int .i64 a1_1, .bool a1_2] 25 (0, 0))) := ⟨by rw [← hq_]; exact (bP BK417)⟩; replace BK418 : Aside0 (w121.heap[gb418]? = some (.cells #[.int .i64 a2_0, .int .i64 a2_1, .bool a2_2] 25 (0, 0))) := ⟨by rw [← hq_]; exact (bP BK418)⟩; replace BK419 : Aside0 (w121.heap[gb419]? = some (.cells #[.int .i64 0, .int .i64 0] 31 (0, 0))) := ⟨by rw [← hq_]; exact (bP BK419)⟩; replace BK420 : Aside0 (w121.heap[gb420]? = some (.cells #[.int .i64 1, .int .i64 0] 31 (0, 0))) := ⟨by rw [← hq_]; exact (bP BK420)⟩; replace HB : Aside0 (Below w.heap.size w w121) := ⟨by rw [← hq_]; exact (bZ HB)⟩; clear hq_))
     replace BK416 := Aside0.mk (blk_drew BK416.out)
     replace BK417 := Aside0.mk (blk_drew BK417.out)
     replace BK418 := Aside0.mk (blk_drew BK418.out)
     replace BK419 := Aside0.mk (blk_drew BK419.out)
     replace BK420 := Aside0.mk (blk_drew BK420.out)
     replace HB := Aside0.mk (below_drew1 HB.out)
     refine start_ (n := 11) (S := fun w' => w'.cell? ⟨gb416, 0, none⟩ = some (.int .i64 a0_0) ∧ w'.cell? ⟨gb416, 1, none⟩ = some (.int .i64 a0_1) ∧ w'.cell? ⟨gb416, 2, none⟩ = some (.bool a0_2) ∧ w'.cell? ⟨gb418, 0, none⟩ = some (.int .i64 a2_0) ∧ w'.cell? ⟨gb418, 1, none⟩ = some (.int .i64 a2_1) ∧ w'.cell? ⟨gb418, 2, none⟩ = some (.bool a2_2)) (ds := []) #[false, false, false, false, false, false, false, false, false, false, false] (by kernel_rfl) rfl rfl ⟨bc BK416 0, bc BK416 1, bc BK416 2, bc BK418 0, bc BK418 1, bc BK418 2⟩ (fun hHeld => ?_); refine with_tabW spec_PairLine.tab8 spec_PairLine.bits8 (fun HT_ HW_ => ?_)
     generalize w121.drew = w122 at BK416 BK417 BK418 BK419 BK420 HB hHeld ⊢
     refine pure_ (i := 0) (N := some 53) (v := ?_) (a' := ?_) #[true, false, false, false, false, false, false, false, false, false, false] rfl rfl (any_of HT_.out (by kernel_rfl)) (fun _ _ _ h => h) (Or.inl ⟨by rfl, ?_⟩) ?_ ?_
     rotate_left
     ·intro w'
      go_simp
      with_reducible rfl
     rotate_left
     ·simp only [Act.put, List.setIfInBounds_toArray, List.set_cons_zero, List.set_cons_succ, i64_w, i32_w]
      rfl
     refine pure_ (i := 3) (N := some 56) (v := ?_) (a' := ?_) #[true, false, false, true, false, false, false, false, false, false, false] rfl rfl (any_of HT_.out (by kernel_rfl)) (fun _ _ _ h => h) (Or.inl ⟨by rfl, ?_⟩) ?_ ?_
     rotate_left
     ·intro w'
      go_simp
      with_reducible rfl
     rotate_left
     ·simp only [Act.put, List.setIfInBounds_toArray, List.set_cons_zero, List.set_cons_succ, i64_w, i32_w]
      rfl
     refine pure_ (i := 4) (N := some 57) (v := ?_) (a' := ?_) #[true, false, false, true, true, false, false, false, false, false, false] rfl rfl (any_of HT_.out (by kernel_rfl)) (fun _ _ _ h => h) (Or.inl ⟨by rfl, ?_⟩) ?_ ?_
     rotate_left
     ·intro w'
      go_simp
      with_reducible rfl
     rotate_left
     ·simp only [Act.put, List.setIfInBounds_toArray, List.set_cons_zero, List.set_cons_succ, i64_w, i32_w]
      rfl
     refine pure_ (i := 7) (N := some 60) (v := ?_) (a' := ?_) #[true, false, false, true, true, false, false, true, false, false, false] rfl rfl (any_of HT_.out (by kernel_rfl)) (fun _ _ _ h => h) (Or.inl ⟨by rfl, ?_⟩) ?_ ?_
     rotate_left
     ·intro w'
      go_simp
      with_reducible rfl
     rotate_left
     ·simp only [Act.put, List.setIfInBounds_toArray, List.set_cons_zero, List.set_cons_succ, i64_w, i32_w]
      rfl
     refine take_ (i := 1) (N := some 54) (v := ?_) (a' := ?_) #[true, true, false, true, true, false, false, true, false, false, false] rfl rfl (take_ofW HT_.out HW_.out (by kernel_rfl)) (fun _ _ _ h => h) (Or.inl ⟨by rfl, ?_⟩) hHeld ?_ ?_
     rotate_left
     ·rintro w' ⟨s0, s1, s2, s3, s4, s5⟩
      go_simp
      with_reducible rfl
     rotate_left
     ·simp only [Act.put, List.setIfInBounds_toArray, List.set_cons_zero, List.set_cons_succ, i64_w, i32_w]
      rfl
     refine take_ (i := 8) (N := some 61) (v := ?_) (a' := ?_) #[true, true, false, true, true, false, false, true, true, false, false] rfl rfl (take_ofW HT_.out HW_.out (by kernel_rfl)) (fun _ _ _ h => h) (Or.inl ⟨by rfl, ?_⟩) hHeld ?_ ?_
     rotate_left
     ·rintro w' ⟨s0, s1, s2, s3, s4, s5⟩
      go_simp
      with_reducible rfl
     rotate_left
     ·simp only [Act.put, List.setIfInBounds_toArray, List.set_cons_zero, List.set_cons_succ, i64_w, i32_w]
      rfl
     refine one_ (i := 2) (N := some 55) #[true, true, true, true, true, false, false, true, true, false, false] rfl rfl (one_of HT_.out (by kernel_rfl)) (by decide) (fun K hK => ?_)
     refine goes_ Try.func75 (by kernel_rfl) rfl #[.int .i64 0, .int .i64 a0_1] (by rfl) rfl rfl (by (try simp only [List.map_toArray, List.map_cons, List.map_nil]); first | done | rfl | (simp only [List.length_drop, List.length_take]; rfl)) ?_
     with_reducible refine (spec_FpSub.calls 0 a0_1 t428 _ A108.out).mono ?_
     rintro e w' ⟨rfl, ⟨nd, rfl⟩⟩
     refine ⟨_, rfl, ?_⟩
     refine hK.out _ _ ⟨bc BK416 0, bc BK416 1, bc BK416 2, bc BK418 0, bc BK418 1, bc BK418 2⟩ (fun hHeld => ?_)
     clear hK K
     refine norm_ (a' := ?_) ?_ ?_
     rotate_left
     ·show Act.put _ (some 55) _ = _
      simp only [Act.put, List.setIfInBounds_toArray, List.set_cons_zero, List.set_cons_succ, i64_w, i32_w]
      rfl
     refine one_ (i := 5) (N := some 58) #[true, true, true, true, true, true, false, true, true, false, false] rfl rfl (one_of HT_.out (by kernel_rfl)) (by decide) (fun K hK => ?_)
     refine goes_ Try.func76 (by kernel_rfl) rfl #[.int .i64 t424, .int .i64 t427] (by rfl) rfl rfl (by (try simp only [List.map_toArray, List.map_cons, List.map_nil]); first | done | rfl | (simp only [List.length_drop, List.length_take]; rfl)) ?_
     with_reducible refine (spec_FpMul.calls t424 t427 t429 _ A109.out).mono ?_
     rintro e w' ⟨rfl, ⟨nd, rfl⟩⟩
     refine ⟨_, rfl, ?_⟩
     refine hK.out _ _ ⟨bc BK416 0, bc BK416 1, bc BK416 2, bc BK418 0, bc BK418 1, bc BK418 2⟩ (fun hHeld => ?_)
     clear hK K
     refine norm_ (a' := ?_) ?_ ?_
     rotate_left
     ·show Act.put _ (some 58) _ = _
      simp only [Act.put, List.setIfInBounds_toArray, List.set_cons_zero, List.set_cons_succ, i64_w, i32_w]
      rfl
     refine one_ (i := 6) (N := some 59) #[true, true, true, true, true, true, true, true, true, false, false] rfl rfl (one_of HT_.out (by kernel_rfl)) (by decide) (fun K hK => ?_)
     refine goes_ Try.func75 (by kernel_rfl) rfl #[.int .i64 t428, .int .i64 t429] (by rfl) rfl rfl (by (try simp only [List.map_toArray, List.map_cons, List.map_nil]); first | done | rfl | (simp only [List.length_drop, List.length_take]; rfl)) ?_
     with_reducible refine (spec_FpSub.calls t428 t429 t430 _ A110.out).mono ?_
     rintro e w' ⟨rfl, ⟨nd, rfl⟩⟩
     refine ⟨_, rfl, ?_⟩
     refine hK.out _ _ ⟨bc BK416 0, bc BK416 1, bc BK416 2, bc BK418 0, bc BK418 1, bc BK418 2⟩ (fun hHeld => ?_)
     clear hK K
     refine norm_ (a' := ?_) ?_ ?_
     rotate_left
     ·show Act.put _ (some 59) _ = _
      simp only [Act.put, List.setIfInBounds_toArray, List.set_cons_zero, List.set_cons_succ, i64_w, i32_w]
      rfl
     refine pure_ (i := 9) (N := some 62) (v := ?_) (a' := ?_) #[true, true, true, true, true, true, true, true, true, true, false] rfl rfl (any_of HT_.out (by kernel_rfl)) (fun _ _ _ h => h) (Or.inl ⟨by rfl, ?_⟩) ?_ ?_
     rotate_left
     ·intro w'
      go_simp
      with_reducible rfl
     rotate_left
     ·simp only [Act.put, List.setIfInBounds_toArray, List.set_cons_zero, List.set_cons_succ, i64_w, i32_w]
      rfl
     refine one_ (i := 10) (N := none) #[true, true, true, true, true, true, true, true, true, true, true] rfl rfl (one_of HT_.out (by kernel_rfl)) (by decide) (fun K hK => ?_)
     have hs123 : w122.cell? ⟨gb419, 0, none⟩ = some (.int .i64 0) := bc BK419 0
     have hfs123 := blk_frozen BK419.out 0
     have hns123_0 := NB416_419.out
     have hns123_1 := NB417_419.out
     have hns123_2 := NB418_419.out
     have hns123_4 := NB420_419.out
     have hms123_0 := NB419_416.out
     have hms123_1 := NB419_417.out
     have hms123_2 := NB419_418.out
     have hms123_4 := NB419_420.out
     have hs124 : w122.cell? ⟨gb419, 1, none⟩ = some (.int .i64 0) := bc BK419 1
     have hfs124 := blk_frozen BK419.out 1
     have hns124_0 := NB416_419.out
     have hns124_1 := NB417_419.out
     have hns124_2 := NB418_419.out
     have hns124_4 := NB420_419.out
     have hms124_0 := NB419_416.out
     have hms124_1 := NB419_417.out
     have hms124_2 := NB419_418.out
     have hms124_4 := NB419_420.out
     refine skip_ (w1 := ?_) (by rfl) rfl ?_ ?_
     rotate_left
     ·go_simp
      rfl
     refine hK.out _ _ ⟨((cell_far (p := ⟨gb419, _, none⟩) NB416_419.out _).trans (((cell_far (p := ⟨gb419, _, none⟩) NB416_419.out _).trans (hHeld.1)))), ((cell_far (p := ⟨gb419, _, none⟩) NB416_419.out _).trans (((cell_far (p := ⟨gb419, _, none⟩) NB416_419.out _).trans (hHeld.2.1)))), ((cell_far (p := ⟨gb419, _, none⟩) NB416_419.out _).trans (((cell_far (p := ⟨gb419, _, none⟩) NB416_419.out _).trans (hHeld.2.2.1)))), ((cell_far (p := ⟨gb419, _, none⟩) NB418_419.out _).trans (((cell_far (p := ⟨gb419, _, none⟩) NB418_419.out _).trans (hHeld.2.2.2.1)))), ((cell_far (p := ⟨gb419, _, none⟩) NB418_419.out _).trans (((cell_far (p := ⟨gb419, _, none⟩) NB418_419.out _).trans (hHeld.2.2.2.2.1)))), ((cell_far (p := ⟨gb419, _, none⟩) NB418_419.out _).trans (((cell_far (p := ⟨gb419, _, none⟩) NB418_419.out _).trans (hHeld.2.2.2.2.2))))⟩ (fun hHeld => ?_)
     clear hK K
     refine done_ (done_of HT_.out (by kernel_rfl)) ?_
     try go_wp2
     refine bodyPost_ret (results_cell_row rfl _ _ gb419 31 #[.int .i64 t430, .int .i64 a2_1] (0, 0) _ rfl (by (with_reducible repeat (first | refine blk_drewN ?_ _ | refine blk_drew ?_ | refine blk_alloc ?_ _)); refine blk_put (cs := #[.int .i64 t430, .int .i64 0]) ?_ 1 _ rfl; (with_reducible repeat (first | refine blk_drewN ?_ _ | refine blk_drew ?_ | refine blk_alloc ?_ _)); refine blk_put (cs := #[.int .i64 0, .int .i64 0]) ?_ 0 _ rfl; (with_reducible repeat (first | refine blk_drewN ?_ _ | refine blk_drew ?_ | refine blk_alloc ?_ _)); exact BK419.out) Try.underlying31 rfl (by kernel_rfl)) rfl ?_
     exact ⟨by first | rfl | (simp [errW_none, errW_some] <;> rfl) | (simp [*, errW_none, errW_some] <;> rfl), bZ HB⟩
    ·replace c105 := Bool.eq_false_iff.mpr c105
     subst c105
     have H1 : (some (1, 0)) = some (r1, r2) := by rw [if_neg (show ¬ (false = true) by decide)] at H; exact H
     clear H
     have H := H1
     clear H1
     simp only [Option.some.injEq, Prod.mk.injEq] at H
     obtain ⟨rfl, rfl⟩ := H
     have hnb125 := NB416_417.out
     have hnc125 := NB417_416.out
     have hnb126 := NB416_418.out
     have hnc126 := NB418_416.out
     have hnb127 := NB416_419.out
     have hnc127 := NB419_416.out
     have hnb128 := NB416_420.out
     have hnc128 := NB420_416.out
     have hcz129_0 : wc.cell? ⟨gb416, 0, none⟩ = some (.int .i64 a0_0) := bc BK416 0
     have hcz129_1 : wc.cell? ⟨gb416, 1, none⟩ = some (.int .i64 a0_1) := bc BK416 1
     have hcz129_2 : wc.cell? ⟨gb416, 2, none⟩ = some (.bool a0_2) := bc BK416 2
     have hfz129_0 := blk_frozen BK416.out 0
     have hfz129_1 := blk_frozen BK416.out 1
     have hfz129_2 := blk_frozen BK416.out 2
     have hnb130 := NB417_418.out
     have hnc130 := NB418_417.out
     have hnb131 := NB417_419.out
     have hnc131 := NB419_417.out
     have hnb132 := NB417_420.out
     have hnc132 := NB420_417.out
     have hcz133_0 : wc.cell? ⟨gb417, 0, none⟩ = some (.int .i64 a1_0) := bc BK417 0
     have hcz133_1 : wc.cell? ⟨gb417, 1, none⟩ = some (.int .i64 a1_1) := bc BK417 1
     have hcz133_2 : wc.cell? ⟨gb417, 2, none⟩ = some (.bool a1_2) := bc BK417 2
     have hfz133_0 := blk_frozen BK417.out 0
     have hfz133_1 := blk_frozen BK417.out 1
     have hfz133_2 := blk_frozen BK417.out 2
     go_wp2_with (first | ((with_reducible refine gate_callee (f := 74) rfl ?_); refine goesL_ (some 41) rfl rfl Try.func74 (by kernel_rfl) rfl #[.agg #[.int .i64 a0_0, .int .i64 a0_1, .bool a0_2], .agg #[.int .i64 a1_0, .int .i64 a1_1, .bool a1_2]] rfl (by (try simp only [List.map_toArray, List.map_cons, List.map_nil]); first | done | rfl | (simp only [List.length_drop, List.length_take]; rfl)) ?_; (with_reducible refine (spec_l07Slope.calls kj3 a0_0 a0_1 a0_2 a1_0 a1_1 a1_2 t424 false _ A104.out).mono ?_); rintro e w134 ⟨rfl, hb⟩; refine ⟨_, rfl, ?_⟩; replace BK416 := bB BK416 hb; replace BK417 := bB BK417 hb; replace BK418 := bB BK418 hb; replace BK419 := bB BK419 hb; replace BK420 := bB BK420 hb; replace HB := bS HB hb; (try clear hb); (try clear hb2); (try clear hk); (try clear hi); have hnb135 := NB420_418.out; have hnc135 := NB418_420.out; have hnb136 := NB420_419.out; have hnc136 := NB419_420.out; have hcz137_0 : w134.cell? ⟨gb420, 0, none⟩ = some (.int .i64 1) := bc BK420 0; have hcz137_1 : w134.cell? ⟨gb420, 1, none⟩ = some (.int .i64 0) := bc BK420 1; have hfz137_0 := blk_frozen BK420.out 0; have hfz137_1 := blk_frozen BK420.out 1; have hnb138 := NB419_418.out; have hnc138 := NB418_419.out; have hcz139_0 : w134.cell? ⟨gb419, 0, none⟩ = some (.int .i64 0) := bc BK419 0; have hcz139_1 : w134.cell? ⟨gb419, 1, none⟩ = some (.int .i64 0) := bc BK419 1; have hfz139_0 := blk_frozen BK419.out 0; have hfz139_1 := blk_frozen BK419.out 1))
     refine bodyPost_ret (results_cell_row rfl _ _ gb419 31 #[.int .i64 1, .int .i64 0] (0, 0) _ rfl (by (with_reducible repeat (first | refine blk_drewN ?_ _ | refine blk_drew ?_ | refine blk_alloc ?_ _)); refine blk_put (cs := #[.int .i64 1, .int .i64 0]) ?_ 1 _ rfl; (with_reducible repeat (first | refine blk_drewN ?_ _ | refine blk_drew ?_ | refine blk_alloc ?_ _)); refine blk_put (cs := #[.int .i64 0, .int .i64 0]) ?_ 0 _ rfl; (with_reducible repeat (first | refine blk_drewN ?_ _ | refine blk_drew ?_ | refine blk_alloc ?_ _)); exact BK419.out) Try.underlying31 rfl (by kernel_rfl)) rfl ?_
     exact ⟨by first | rfl | (simp [errW_none, errW_some] <;> rfl) | (simp [*, errW_none, errW_some] <;> rfl), bZ HB⟩
/-! ### laws_toPoint: function 24 -/
def laws_toPoint.f (a0_0 : Int) (a0_1 : Int) (a0_2 : Bool) : Option (Int × Int × Bool) := some (a0_0, a0_1, a0_2)
set_option maxHeartbeats 8000000 in
set_option maxRecDepth 100000 in
theorem laws_toPoint.calls (a0_0 : Int) (a0_1 : Int) (a0_2 : Bool) (r1 : Int) (r2 : Int) (r3 : Bool) (w : World) (h : laws_toPoint.f a0_0 a0_1 a0_2 = some (r1, r2, r3)) :
  Calls Try.prog 24 #[.agg #[.int .i64 a0_0, .int .i64 a0_1, .bool a0_2]] w fun e w' => e = .returned (.agg #[.int .i64 r1, .int .i64 r2, .bool r3]) ∧ Below w.heap.size w w' := by
 have hu37 := Try.underlying37
 have hu25 := Try.underlying25
 have HB := Aside0.mk (Below.refl w.heap.size w)
 have H : (some (a0_0, a0_1, a0_2)) = some (r1, r2, r3) := h
 clear h
 simp only [Option.some.injEq, Prod.mk.injEq] at H
 obtain ⟨rfl, rfl, rfl⟩ := H
 go_enter Try.func24, Try.ntmps24
 go_wp2_with (first | ((with_reducible refine gate_dst (N := 1) rfl ?_); refine box_event ?hg (N := 1) ?hd (cs := #[.int .i64 a0_0, .int .i64 a0_1, .bool a0_2]) (t := 37) ?hr ?_; (case hd => rfl); (case hg => rfl); (case hr => first | (go_simp; done) | (go_simp; rfl)); intro gb566 hg w2 hbox hb; have BK566 := Aside0.mk (hbox); have GW566 := bG HB hg; have GE566 := bG HB hg; replace HB := bS HB hb; clear hb hbox hg) | ((with_reducible refine gate_dst (N := 2) rfl ?_); refine box_event ?hg (N := 2) ?hd (cs := #[.int .i64 0, .int .i64 0, .bool false]) (t := 25) ?hr ?_; (case hd => rfl); (case hg => rfl); (case hr => first | (go_simp; done) | (go_simp; rfl)); intro gb567 hg w3 hbox hb; have BK567 := Aside0.mk (hbox); have GW567 := bG HB hg; have GE567 := bG HB hg; replace HB := bS HB hb; have NB566_567 := bL BK566 hg; have NB567_566 := bR BK566 hg; replace BK566 := bB BK566 hb; clear hb hbox hg) | ((with_reducible refine gate_dst (N := 3) rfl ?_); refine box_event ?hg (N := 3) ?hd (cs := #[.int .i64 0, .int .i64 0, .bool false]) (t := 25) ?hr ?_; (case hd => rfl); (case hg => rfl); (case hr => first | (go_simp; done) | (go_simp; rfl)); intro gb568 hg w4 hbox hb; have BK568 := Aside0.mk (hbox); have GW568 := bG HB hg; have GE568 := bG HB hg; replace HB := bS HB hb; have NB566_568 := bL BK566 hg; have NB568_566 := bR BK566 hg; replace BK566 := bB BK566 hb; have NB567_568 := bL BK567 hg; have NB568_567 := bR BK567 hg; replace BK567 := bB BK567 hb; clear hb hbox hg; have hnb5 := NB566_567.out; have hnc5 := NB567_566.out; have hnb6 := NB566_568.out; have hnc6 := NB568_566.out; have hcz7_0 : w4.cell? ⟨gb566, 0, none⟩ = some (.int .i64 a0_0) := bc BK566 0; have hcz7_1 : w4.cell? ⟨gb566, 1, none⟩ = some (.int .i64 a0_1) := bc BK566 1; have hcz7_2 : w4.cell? ⟨gb566, 2, none⟩ = some (.bool a0_2) := bc BK566 2; have hfz7_0 := blk_frozen BK566.out 0; have hfz7_1 := blk_frozen BK566.out 1; have hfz7_2 := blk_frozen BK566.out 2; have hnb8 := NB568_567.out; have hnc8 := NB567_568.out; have hcz9_0 : w4.cell? ⟨gb568, 0, none⟩ = some (.int .i64 0) := bc BK568 0; have hcz9_1 : w4.cell? ⟨gb568, 1, none⟩ = some (.int .i64 0) := bc BK568 1; have hcz9_2 : w4.cell? ⟨gb568, 2, none⟩ = some (.bool false) := bc BK568 2; have hfz9_0 := blk_frozen BK568.out 0; have hfz9_1 := blk_frozen BK568.out 1; have hfz9_2 := blk_frozen BK568.out 2; have hcz10_0 : w4.cell? ⟨gb567, 0, none⟩ = some (.int .i64 0) := bc BK567 0; have hcz10_1 : w4.cell? ⟨gb567, 1, none⟩ = some (.int .i64 0) := bc BK567 1; have hcz10_2 : w4.cell? ⟨gb567, 2, none⟩ = some (.bool false) := bc BK567 2; have hfz10_0 := blk_frozen BK567.out 0; have hfz10_1 := blk_frozen BK567.out 1; have hfz10_2 := blk_frozen BK567.out 2))
 refine bodyPost_ret (results_cell_row rfl _ _ gb567 25 #[.int .i64 a0_0, .int .i64 a0_1, .bool a0_2] (0, 0) _ rfl (by (with_reducible repeat (first | refine blk_drewN ?_ _ | refine blk_drew ?_ | refine blk_alloc ?_ _)); refine blk_put (cs := #[.int .i64 a0_0, .int .i64 a0_1, .bool false]) ?_ 2 _ rfl; (with_reducible repeat (first | refine blk_drewN ?_ _ | refine blk_drew ?_ | refine blk_alloc ?_ _)); refine blk_put (cs := #[.int .i64 a0_0, .int .i64 0, .bool false]) ?_ 1 _ rfl; (with_reducible repeat (first | refine blk_drewN ?_ _ | refine blk_drew ?_ | refine blk_alloc ?_ _)); refine blk_put (cs := #[.int .i64 0, .int .i64 0, .bool false]) ?_ 0 _ rfl; (with_reducible repeat (first | refine blk_drewN ?_ _ | refine blk_drew ?_ | refine blk_alloc ?_ _)); refine blk_far ?_ NB567_568.out _; (with_reducible repeat (first | refine blk_drewN ?_ _ | refine blk_drew ?_ | refine blk_alloc ?_ _)); refine blk_far ?_ NB567_568.out _; (with_reducible repeat (first | refine blk_drewN ?_ _ | refine blk_drew ?_ | refine blk_alloc ?_ _)); refine blk_far ?_ NB567_568.out _; (with_reducible repeat (first | refine blk_drewN ?_ _ | refine blk_drew ?_ | refine blk_alloc ?_ _)); exact BK567.out) Try.underlying25 rfl (by kernel_rfl)) rfl ?_
 exact ⟨by first | rfl | (simp [errW_none, errW_some] <;> rfl) | (simp [*, errW_none, errW_some] <;> rfl), bZ HB⟩
/-! ### laws_eqTwo: function 26 -/
def laws_eqTwo.f (a0_0 : Int) (a0_1 : Int) (a1_0 : Int) (a1_1 : Int) : Option (Bool) := if a0_0 = a1_0 then (if a0_1 = a1_1 then (some true) else (some false)) else (some false)
set_option maxHeartbeats 8000000 in
set_option maxRecDepth 100000 in
theorem laws_eqTwo.calls (a0_0 : Int) (a0_1 : Int) (a1_0 : Int) (a1_1 : Int) (r : Bool) (w : World) (h : laws_eqTwo.f a0_0 a0_1 a1_0 a1_1 = some r) :
  Calls Try.prog 26 #[.agg #[.int .i64 a0_0, .int .i64 a0_1], .agg #[.int .i64 a1_0, .int .i64 a1_1]] w fun e w' => e = .returned (.bool r) ∧ Below w.heap.size w w' := by
 have hu31 := Try.underlying31
 have HB := Aside0.mk (Below.refl w.heap.size w)
 have H : (if a0_0 = a1_0 then (if a0_1 = a1_1 then (some true) else (some false)) else (some false)) = some r := h
 clear h
 by_cases c3 : a0_0 = a1_0
 ·rw [if_pos c3] at H
  have c3b0 : (a0_0 == a1_0) = true := beq_iff_eq.mpr c3
  have c3b1 : (a0_0 != a1_0) = false := bne_eq_false_iff_eq.mpr c3
  clear c3
  by_cases c4 : a0_1 = a1_1
  ·rw [if_pos c4] at H
   have c4b0 : (a0_1 == a1_1) = true := beq_iff_eq.mpr c4
   have c4b1 : (a0_1 != a1_1) = false := bne_eq_false_iff_eq.mpr c4
   clear c4
   obtain rfl := Option.some.inj H
   go_enter Try.func26, Try.ntmps26
   go_wp2_with (first | ((with_reducible refine gate_dst (N := 2) rfl ?_); refine box_event ?hg (N := 2) ?hd (cs := #[.int .i64 a0_0, .int .i64 a0_1]) (t := 31) ?hr ?_; (case hd => rfl); (case hg => rfl); (case hr => first | (go_simp; done) | (go_simp; rfl)); intro gb569 hg w5 hbox hb; have BK569 := Aside0.mk (hbox); have GW569 := bG HB hg; have GE569 := bG HB hg; replace HB := bS HB hb; clear hb hbox hg) | ((with_reducible refine gate_dst (N := 3) rfl ?_); refine box_event ?hg (N := 3) ?hd (cs := #[.int .i64 a1_0, .int .i64 a1_1]) (t := 31) ?hr ?_; (case hd => rfl); (case hg => rfl); (case hr => first | (go_simp; done) | (go_simp; rfl)); intro gb570 hg w6 hbox hb; have BK570 := Aside0.mk (hbox); have GW570 := bG HB hg; have GE570 := bG HB hg; replace HB := bS HB hb; have NB569_570 := bL BK569 hg; have NB570_569 := bR BK569 hg; replace BK569 := bB BK569 hb; clear hb hbox hg; have hnb7 := NB569_570.out; have hnc7 := NB570_569.out; have hcz8_0 : w6.cell? ⟨gb569, 0, none⟩ = some (.int .i64 a0_0) := bc BK569 0; have hcz8_1 : w6.cell? ⟨gb569, 1, none⟩ = some (.int .i64 a0_1) := bc BK569 1; have hfz8_0 := blk_frozen BK569.out 0; have hfz8_1 := blk_frozen BK569.out 1; have hcz9_0 : w6.cell? ⟨gb570, 0, none⟩ = some (.int .i64 a1_0) := bc BK570 0; have hcz9_1 : w6.cell? ⟨gb570, 1, none⟩ = some (.int .i64 a1_1) := bc BK570 1; have hfz9_0 := blk_frozen BK570.out 0; have hfz9_1 := blk_frozen BK570.out 1))
   go_ret
   exact ⟨by first | rfl | (simp [errW_none, errW_some] <;> rfl) | (simp [*, errW_none, errW_some] <;> rfl), bZ HB⟩
  ·rw [if_neg c4] at H
   have c4b0 : (a0_1 == a1_1) = false := beq_eq_false_iff_ne.mpr c4
   have c4b1 : (a0_1 != a1_1) = true := bne_iff_ne.mpr c4
   obtain rfl := Option.some.inj H
   go_enter Try.func26, Try.ntmps26
   go_wp2_with (first | ((with_reducible refine gate_dst (N := 2) rfl ?_); refine box_event ?hg (N := 2) ?hd (cs := #[.int .i64 a0_0, .int .i64 a0_1]) (t := 31) ?hr ?_; (case hd => rfl); (case hg => rfl); (case hr => first | (go_simp; done) | (go_simp; rfl)); intro gb569 hg w10 hbox hb; have BK569 := Aside0.mk (hbox); have GW569 := bG HB hg; have GE569 := bG HB hg; replace HB := bS HB hb; clear hb hbox hg) | ((with_reducible refine gate_dst (N := 3) rfl ?_); refine box_event ?hg (N := 3) ?hd (cs := #[.int .i64 a1_0, .int .i64 a1_1]) (t := 31) ?hr ?_; (case hd => rfl); (case hg => rfl); (case hr => first | (go_simp; done) | (go_simp; rfl)); intro gb570 hg w11 hbox hb; have BK570 := Aside0.mk (hbox); have GW570 := bG HB hg; have GE570 := bG HB hg; replace HB := bS HB hb; have NB569_570 := bL BK569 hg; have NB570_569 := bR BK569 hg; replace BK569 := bB BK569 hb; clear hb hbox hg; have hnb12 := NB569_570.out; have hnc12 := NB570_569.out; have hcz13_0 : w11.cell? ⟨gb569, 0, none⟩ = some (.int .i64 a0_0) := bc BK569 0; have hcz13_1 : w11.cell? ⟨gb569, 1, none⟩ = some (.int .i64 a0_1) := bc BK569 1; have hfz13_0 := blk_frozen BK569.out 0; have hfz13_1 := blk_frozen BK569.out 1; have hcz14_0 : w11.cell? ⟨gb570, 0, none⟩ = some (.int .i64 a1_0) := bc BK570 0; have hcz14_1 : w11.cell? ⟨gb570, 1, none⟩ = some (.int .i64 a1_1) := bc BK570 1; have hfz14_0 := blk_frozen BK570.out 0; have hfz14_1 := blk_frozen BK570.out 1))
   go_ret
   exact ⟨by first | rfl | (simp [errW_none, errW_some] <;> rfl) | (simp [*, errW_none, errW_some] <;> rfl), bZ HB⟩
 ·rw [if_neg c3] at H
  have c3b0 : (a0_0 == a1_0) = false := beq_eq_false_iff_ne.mpr c3
  have c3b1 : (a0_0 != a1_0) = true := bne_iff_ne.mpr c3
  obtain rfl := Option.some.inj H
  go_enter Try.func26, Try.ntmps26
  go_wp2_with (first | ((with_reducible refine gate_dst (N := 2) rfl ?_); refine box_event ?hg (N := 2) ?hd (cs := #[.int .i64 a0_0, .int .i64 a0_1]) (t := 31) ?hr ?_; (case hd => rfl); (case hg => rfl); (case hr => first | (go_simp; done) | (go_simp; rfl)); intro gb569 hg w15 hbox hb; have BK569 := Aside0.mk (hbox); have GW569 := bG HB hg; have GE569 := bG HB hg; replace HB := bS HB hb; clear hb hbox hg) | ((with_reducible refine gate_dst (N := 3) rfl ?_); refine box_event ?hg (N := 3) ?hd (cs := #[.int .i64 a1_0, .int .i64 a1_1]) (t := 31) ?hr ?_; (case hd => rfl); (case hg => rfl); (case hr => first | (go_simp; done) | (go_simp; rfl)); intro gb570 hg w16 hbox hb; have BK570 := Aside0.mk (hbox); have GW570 := bG HB hg; have GE570 := bG HB hg; replace HB := bS HB hb; have NB569_570 := bL BK569 hg; have NB570_569 := bR BK569 hg; replace BK569 := bB BK569 hb; clear hb hbox hg; have hnb17 := NB569_570.out; have hnc17 := NB570_569.out; have hcz18_0 : w16.cell? ⟨gb569, 0, none⟩ = some (.int .i64 a0_0) := bc BK569 0; have hcz18_1 : w16.cell? ⟨gb569, 1, none⟩ = some (.int .i64 a0_1) := bc BK569 1; have hfz18_0 := blk_frozen BK569.out 0; have hfz18_1 := blk_frozen BK569.out 1; have hcz19_0 : w16.cell? ⟨gb570, 0, none⟩ = some (.int .i64 a1_0) := bc BK570 0; have hcz19_1 : w16.cell? ⟨gb570, 1, none⟩ = some (.int .i64 a1_1) := bc BK570 1; have hfz19_0 := blk_frozen BK570.out 0; have hfz19_1 := blk_frozen BK570.out 1))
  go_ret
  exact ⟨by first | rfl | (simp [errW_none, errW_some] <;> rfl) | (simp [*, errW_none, errW_some] <;> rfl), bZ HB⟩
/-! ### laws_FnExactPairLine: function 4 -/
def laws_FnExactPairLine.f (k : Nat) (a0_0 : Int) (a0_1 : Int) (a0_2 : Bool) (a1_0 : Int) (a1_1 : Int) (a1_2 : Bool) (a2_0 : Int) (a2_1 : Int) (a2_2 : Bool) : Option (Bool) := (laws_toPoint.f a0_0 a0_1 a0_2).bind fun bt574 => ((laws_toPoint.f a1_0 a1_1 a1_2).bind fun bt577 => ((laws_toPoint.f a2_0 a2_1 a2_2).bind fun bt580 => ((spec_PairLine.f k bt574.1 bt574.2.1 bt574.2.2 bt577.1 bt577.2.1 bt577.2.2 bt580.1 bt580.2.1 bt580.2.2).bind fun bt583 => ((laws_toPoint.f a0_0 a0_1 a0_2).bind fun bt586 => ((laws_toPoint.f a1_0 a1_1 a1_2).bind fun bt589 => ((laws_toPoint.f a2_0 a2_1 a2_2).bind fun bt592 => ((impl_PairLine.f k bt586.1 bt586.2.1 bt586.2.2 bt589.1 bt589.2.1 bt589.2.2 bt592.1 bt592.2.1 bt592.2.2).bind fun bt595 => ((laws_eqTwo.f bt595.1 bt595.2 bt583.1 bt583.2).bind fun t598 => (if t598 = true then (some true) else (some false))))))))))
theorem laws_FnExactPairLine.mono : ∀ a0 a1 a2 a3 a4 a5 a6 a7 a8 k, LeO (laws_FnExactPairLine.f k a0 a1 a2 a3 a4 a5 a6 a7 a8) (laws_FnExactPairLine.f (k + 1) a0 a1 a2 a3 a4 a5 a6 a7 a8) := by
 intro a0 a1 a2 a3 a4 a5 a6 a7 a8 k
 unfold laws_FnExactPairLine.f
 repeat' first
   | (with_reducible exact impl_PairLine.mono _ _ _ _ _ _ _ _ _ _)
   | (with_reducible exact spec_PairLine.mono _ _ _ _ _ _ _ _ _ _)
   | (with_reducible exact LeO.refl _)
   | (with_reducible exact LeO.none _)
   | (with_reducible refine LeO.ite ?_ ?_)
   | (with_reducible refine LeO.bind ?_ (fun _ => ?_))
   | exact impl_PairLine.mono _ _ _ _ _ _ _ _ _ _
   | exact spec_PairLine.mono _ _ _ _ _ _ _ _ _ _
   | exact LeO.none _
   | refine LeO.ite ?_ ?_
   | refine LeO.bind ?_ (fun _ => ?_)
def laws_FnExactPairLine.T1 : Bool × List (List Nat × List Nat) := (true, [([], []), ([0], [0]), ([], []), ([2, 1], [2]), ([], []), ([4, 3], [4]), ([1, 3, 5, 5], [1, 3, 5]), ([], []), ([7, 6, 6, 0, 1, 2, 3, 4, 5, 6, 7], [6, 7])])
def laws_FnExactPairLine.B1 : List Nat := [0, 1, 0, 7, 0, 31, 63, 0, 255]
theorem laws_FnExactPairLine.tab1 : rtab .any (opsOf Try.f4 1) = laws_FnExactPairLine.T1 := by kernel_rfl
theorem laws_FnExactPairLine.bits1 : waitsOk laws_FnExactPairLine.T1.2 laws_FnExactPairLine.B1 = true := by kernel_rfl
def laws_FnExactPairLine.T2 : Bool × List (List Nat × List Nat) := (true, [([], []), ([0], [0]), ([], []), ([2, 1], [2]), ([], []), ([4, 3], [4]), ([1, 3, 5, 5], [1, 3, 5]), ([], []), ([7, 6, 6, 0, 1, 2, 3, 4, 5, 6, 7], [6, 7])])
def laws_FnExactPairLine.B2 : List Nat := [0, 1, 0, 7, 0, 31, 63, 0, 255]
theorem laws_FnExactPairLine.tab2 : rtab .any (opsOf Try.f4 2) = laws_FnExactPairLine.T2 := by kernel_rfl
theorem laws_FnExactPairLine.bits2 : waitsOk laws_FnExactPairLine.T2.2 laws_FnExactPairLine.B2 = true := by kernel_rfl
set_option maxHeartbeats 8000000 in
set_option maxRecDepth 100000 in
theorem laws_FnExactPairLine.calls (k : Nat) (a0_0 : Int) (a0_1 : Int) (a0_2 : Bool) (a1_0 : Int) (a1_1 : Int) (a1_2 : Bool) (a2_0 : Int) (a2_1 : Int) (a2_2 : Bool) (r : Bool) (w : World) (htrue : Aside0 (r = true)) (h : laws_FnExactPairLine.f k a0_0 a0_1 a0_2 a1_0 a1_1 a1_2 a2_0 a2_1 a2_2 = some r) :
  Calls Try.prog 4 #[.agg #[.int .i64 a0_0, .int .i64 a0_1, .bool a0_2], .agg #[.int .i64 a1_0, .int .i64 a1_1, .bool a1_2], .agg #[.int .i64 a2_0, .int .i64 a2_1, .bool a2_2]] w fun e w' => e = .returned (.bool r) ∧ Below w.heap.size w w' := by
 have hu37 := Try.underlying37
 have hu31 := Try.underlying31
 have HB := Aside0.mk (Below.refl w.heap.size w)
 have H : ((laws_toPoint.f a0_0 a0_1 a0_2).bind fun bt574 => ((laws_toPoint.f a1_0 a1_1 a1_2).bind fun bt577 => ((laws_toPoint.f a2_0 a2_1 a2_2).bind fun bt580 => ((spec_PairLine.f k bt574.1 bt574.2.1 bt574.2.2 bt577.1 bt577.2.1 bt577.2.2 bt580.1 bt580.2.1 bt580.2.2).bind fun bt583 => ((laws_toPoint.f a0_0 a0_1 a0_2).bind fun bt586 => ((laws_toPoint.f a1_0 a1_1 a1_2).bind fun bt589 => ((laws_toPoint.f a2_0 a2_1 a2_2).bind fun bt592 => ((impl_PairLine.f k bt586.1 bt586.2.1 bt586.2.2 bt589.1 bt589.2.1 bt589.2.2 bt592.1 bt592.2.1 bt592.2.2).bind fun bt595 => ((laws_eqTwo.f bt595.1 bt595.2 bt583.1 bt583.2).bind fun t598 => (if t598 = true then (some true) else (some false))))))))))) = some r := h
 clear h
 replace H := Option.bind_eq_some_iff.mp H
 obtain ⟨⟨t574, t575, t576⟩, A40, H⟩ := H
 replace H : ((laws_toPoint.f a1_0 a1_1 a1_2).bind fun bt577 => ((laws_toPoint.f a2_0 a2_1 a2_2).bind fun bt580 => ((spec_PairLine.f k t574 t575 t576 bt577.1 bt577.2.1 bt577.2.2 bt580.1 bt580.2.1 bt580.2.2).bind fun bt583 => ((laws_toPoint.f a0_0 a0_1 a0_2).bind fun bt586 => ((laws_toPoint.f a1_0 a1_1 a1_2).bind fun bt589 => ((laws_toPoint.f a2_0 a2_1 a2_2).bind fun bt592 => ((impl_PairLine.f k bt586.1 bt586.2.1 bt586.2.2 bt589.1 bt589.2.1 bt589.2.2 bt592.1 bt592.2.1 bt592.2.2).bind fun bt595 => ((laws_eqTwo.f bt595.1 bt595.2 bt583.1 bt583.2).bind fun t598 => (if t598 = true then (some true) else (some false)))))))))) = some r := H
 have A4 := Aside0.mk A40
 clear A40
 replace H := Option.bind_eq_some_iff.mp H
 obtain ⟨⟨t577, t578, t579⟩, A50, H⟩ := H
 replace H : ((laws_toPoint.f a2_0 a2_1 a2_2).bind fun bt580 => ((spec_PairLine.f k t574 t575 t576 t577 t578 t579 bt580.1 bt580.2.1 bt580.2.2).bind fun bt583 => ((laws_toPoint.f a0_0 a0_1 a0_2).bind fun bt586 => ((laws_toPoint.f a1_0 a1_1 a1_2).bind fun bt589 => ((laws_toPoint.f a2_0 a2_1 a2_2).bind fun bt592 => ((impl_PairLine.f k bt586.1 bt586.2.1 bt586.2.2 bt589.1 bt589.2.1 bt589.2.2 bt592.1 bt592.2.1 bt592.2.2).bind fun bt595 => ((laws_eqTwo.f bt595.1 bt595.2 bt583.1 bt583.2).bind fun t598 => (if t598 = true then (some true) else (some false))))))))) = some r := H
 have A5 := Aside0.mk A50
 clear A50
 replace H := Option.bind_eq_some_iff.mp H
 obtain ⟨⟨t580, t581, t582⟩, A60, H⟩ := H
 replace H : ((spec_PairLine.f k t574 t575 t576 t577 t578 t579 t580 t581 t582).bind fun bt583 => ((laws_toPoint.f a0_0 a0_1 a0_2).bind fun bt586 => ((laws_toPoint.f a1_0 a1_1 a1_2).bind fun bt589 => ((laws_toPoint.f a2_0 a2_1 a2_2).bind fun bt592 => ((impl_PairLine.f k bt586.1 bt586.2.1 bt586.2.2 bt589.1 bt589.2.1 bt589.2.2 bt592.1 bt592.2.1 bt592.2.2).bind fun bt595 => ((laws_eqTwo.f bt595.1 bt595.2 bt583.1 bt583.2).bind fun t598 => (if t598 = true then (some true) else (some false)))))))) = some r := H
 have A6 := Aside0.mk A60
 clear A60
 replace H := Option.bind_eq_some_iff.mp H
 obtain ⟨⟨t583, t584⟩, A70, H⟩ := H
 replace H : ((laws_toPoint.f a0_0 a0_1 a0_2).bind fun bt586 => ((laws_toPoint.f a1_0 a1_1 a1_2).bind fun bt589 => ((laws_toPoint.f a2_0 a2_1 a2_2).bind fun bt592 => ((impl_PairLine.f k bt586.1 bt586.2.1 bt586.2.2 bt589.1 bt589.2.1 bt589.2.2 bt592.1 bt592.2.1 bt592.2.2).bind fun bt595 => ((laws_eqTwo.f bt595.1 bt595.2 t583 t584).bind fun t598 => (if t598 = true then (some true) else (some false))))))) = some r := H
 have A7 := Aside0.mk A70
 clear A70
 replace H := Option.bind_eq_some_iff.mp H
 obtain ⟨⟨t586, t587, t588⟩, A80, H⟩ := H
 replace H : ((laws_toPoint.f a1_0 a1_1 a1_2).bind fun bt589 => ((laws_toPoint.f a2_0 a2_1 a2_2).bind fun bt592 => ((impl_PairLine.f k t586 t587 t588 bt589.1 bt589.2.1 bt589.2.2 bt592.1 bt592.2.1 bt592.2.2).bind fun bt595 => ((laws_eqTwo.f bt595.1 bt595.2 t583 t584).bind fun t598 => (if t598 = true then (some true) else (some false)))))) = some r := H
 have A8 := Aside0.mk A80
 clear A80
 replace H := Option.bind_eq_some_iff.mp H
 obtain ⟨⟨t589, t590, t591⟩, A90, H⟩ := H
 replace H : ((laws_toPoint.f a2_0 a2_1 a2_2).bind fun bt592 => ((impl_PairLine.f k t586 t587 t588 t589 t590 t591 bt592.1 bt592.2.1 bt592.2.2).bind fun bt595 => ((laws_eqTwo.f bt595.1 bt595.2 t583 t584).bind fun t598 => (if t598 = true then (some true) else (some false))))) = some r := H
 have A9 := Aside0.mk A90
 clear A90
 replace H := Option.bind_eq_some_iff.mp H
 obtain ⟨⟨t592, t593, t594⟩, A100, H⟩ := H
 replace H : ((impl_PairLine.f k t586 t587 t588 t589 t590 t591 t592 t593 t594).bind fun bt595 => ((laws_eqTwo.f bt595.1 bt595.2 t583 t584).bind fun t598 => (if t598 = true then (some true) else (some false)))) = some r := H
 have A10 := Aside0.mk A100
 clear A100
 replace H := Option.bind_eq_some_iff.mp H
 obtain ⟨⟨t595, t596⟩, A110, H⟩ := H
 replace H : ((laws_eqTwo.f t595 t596 t583 t584).bind fun t598 => (if t598 = true then (some true) else (some false))) = some r := H
 have A11 := Aside0.mk A110
 clear A110
 replace H := Option.bind_eq_some_iff.mp H
 obtain ⟨t598, A120, H⟩ := H
 replace H : (if t598 = true then (some true) else (some false)) = some r := H
 have A12 := Aside0.mk A120
 clear A120
 by_cases c13 : t598 = true
 ·subst c13
  have H1 : (some true) = some r := by rw [if_pos rfl] at H; exact H
  clear H
  have H := H1
  clear H1
  obtain rfl := Option.some.inj H
  go_enter Try.func4, Try.ntmps4
  try go_wp2_with (first | ((with_reducible refine gate_dst (N := 3) rfl ?_); refine box_event ?hg (N := 3) ?hd (cs := #[.int .i64 a0_0, .int .i64 a0_1, .bool a0_2]) (t := 37) ?hr ?_; (case hd => rfl); (case hg => rfl); (case hr => first | (go_simp; done) | (go_simp; rfl)); intro gb571 hg w14 hbox hb; have BK571 := Aside0.mk (hbox); have GW571 := bG HB hg; have GE571 := bG HB hg; replace HB := bS HB hb; clear hb hbox hg) | ((with_reducible refine gate_dst (N := 4) rfl ?_); refine box_event ?hg (N := 4) ?hd (cs := #[.int .i64 a1_0, .int .i64 a1_1, .bool a1_2]) (t := 37) ?hr ?_; (case hd => rfl); (case hg => rfl); (case hr => first | (go_simp; done) | (go_simp; rfl)); intro gb572 hg w15 hbox hb; have BK572 := Aside0.mk (hbox); have GW572 := bG HB hg; have GE572 := bG HB hg; replace HB := bS HB hb; have NB571_572 := bL BK571 hg; have NB572_571 := bR BK571 hg; replace BK571 := bB BK571 hb; clear hb hbox hg) | ((with_reducible refine gate_dst (N := 5) rfl ?_); refine box_event ?hg (N := 5) ?hd (cs := #[.int .i64 a2_0, .int .i64 a2_1, .bool a2_2]) (t := 37) ?hr ?_; (case hd => rfl); (case hg => rfl); (case hr => first | (go_simp; done) | (go_simp; rfl)); intro gb573 hg w16 hbox hb; have BK573 := Aside0.mk (hbox); have GW573 := bG HB hg; have GE573 := bG HB hg; replace HB := bS HB hb; have NB571_573 := bL BK571 hg; have NB573_571 := bR BK571 hg; replace BK571 := bB BK571 hb; have NB572_573 := bL BK572 hg; have NB573_572 := bR BK572 hg; replace BK572 := bB BK572 hb; clear hb hbox hg))
  replace BK571 := Aside0.mk (blk_drew BK571.out)
  replace BK572 := Aside0.mk (blk_drew BK572.out)
  replace BK573 := Aside0.mk (blk_drew BK573.out)
  replace HB := Aside0.mk (below_drew1 HB.out)
  refine start_ (n := 9) (S := fun w' => w'.cell? ⟨gb571, 0, none⟩ = some (.int .i64 a0_0) ∧ w'.cell? ⟨gb571, 1, none⟩ = some (.int .i64 a0_1) ∧ w'.cell? ⟨gb571, 2, none⟩ = some (.bool a0_2) ∧ w'.cell? ⟨gb572, 0, none⟩ = some (.int .i64 a1_0) ∧ w'.cell? ⟨gb572, 1, none⟩ = some (.int .i64 a1_1) ∧ w'.cell? ⟨gb572, 2, none⟩ = some (.bool a1_2) ∧ w'.cell? ⟨gb573, 0, none⟩ = some (.int .i64 a2_0) ∧ w'.cell? ⟨gb573, 1, none⟩ = some (.int .i64 a2_1) ∧ w'.cell? ⟨gb573, 2, none⟩ = some (.bool a2_2)) (ds := []) #[false, false, false, false, false, false, false, false, false] (by kernel_rfl) rfl rfl ⟨bc BK571 0, bc BK571 1, bc BK571 2, bc BK572 0, bc BK572 1, bc BK572 2, bc BK573 0, bc BK573 1, bc BK573 2⟩ (fun hHeld => ?_); refine with_tabW laws_FnExactPairLine.tab1 laws_FnExactPairLine.bits1 (fun HT_ HW_ => ?_)
  generalize w16.drew = w17 at BK571 BK572 BK573 HB hHeld ⊢
  refine take_ (i := 0) (N := some 9) (v := ?_) (a' := ?_) #[true, false, false, false, false, false, false, false, false] rfl rfl (take_ofW HT_.out HW_.out (by kernel_rfl)) (fun _ _ _ h => h) (Or.inl ⟨by rfl, ?_⟩) hHeld ?_ ?_
  rotate_left
  ·rintro w' ⟨s0, s1, s2, s3, s4, s5, s6, s7, s8⟩
   go_simp
   with_reducible rfl
  rotate_left
  ·simp only [Act.put, List.setIfInBounds_toArray, List.set_cons_zero, List.set_cons_succ, i64_w, i32_w]
   rfl
  refine take_ (i := 2) (N := some 11) (v := ?_) (a' := ?_) #[true, false, true, false, false, false, false, false, false] rfl rfl (take_ofW HT_.out HW_.out (by kernel_rfl)) (fun _ _ _ h => h) (Or.inl ⟨by rfl, ?_⟩) hHeld ?_ ?_
  rotate_left
  ·rintro w' ⟨s0, s1, s2, s3, s4, s5, s6, s7, s8⟩
   go_simp
   with_reducible rfl
  rotate_left
  ·simp only [Act.put, List.setIfInBounds_toArray, List.set_cons_zero, List.set_cons_succ, i64_w, i32_w]
   rfl
  refine take_ (i := 4) (N := some 13) (v := ?_) (a' := ?_) #[true, false, true, false, true, false, false, false, false] rfl rfl (take_ofW HT_.out HW_.out (by kernel_rfl)) (fun _ _ _ h => h) (Or.inl ⟨by rfl, ?_⟩) hHeld ?_ ?_
  rotate_left
  ·rintro w' ⟨s0, s1, s2, s3, s4, s5, s6, s7, s8⟩
   go_simp
   with_reducible rfl
  rotate_left
  ·simp only [Act.put, List.setIfInBounds_toArray, List.set_cons_zero, List.set_cons_succ, i64_w, i32_w]
   rfl
  refine join_ (σ := Nat) 1 #[true, true, true, true, true, true, true, true, false] (fun s_ => [(10, .agg #[.int .i64 t574, .int .i64 t575, .bool t576]), (12, .agg #[.int .i64 t577, .int .i64 t578, .bool t579]), (14, .agg #[.int .i64 t580, .int .i64 t581, .bool t582]), (15, .agg #[.int .i64 t583, .int .i64 t584]), (7, .pointer (some ⟨s_, 0, none⟩))]) (fun s_ w' => (w'.cell? ⟨gb571, 0, none⟩ = some (.int .i64 a0_0) ∧ w'.cell? ⟨gb571, 1, none⟩ = some (.int .i64 a0_1) ∧ w'.cell? ⟨gb571, 2, none⟩ = some (.bool a0_2) ∧ w'.cell? ⟨gb572, 0, none⟩ = some (.int .i64 a1_0) ∧ w'.cell? ⟨gb572, 1, none⟩ = some (.int .i64 a1_1) ∧ w'.cell? ⟨gb572, 2, none⟩ = some (.bool a1_2) ∧ w'.cell? ⟨gb573, 0, none⟩ = some (.int .i64 a2_0) ∧ w'.cell? ⟨gb573, 1, none⟩ = some (.int .i64 a2_1) ∧ w'.cell? ⟨gb573, 2, none⟩ = some (.bool a2_2)) ∧ (w'.heap[gb571]? = some (.cells #[.int .i64 a0_0, .int .i64 a0_1, .bool a0_2] 37 (0, 0))) ∧ (w'.heap[gb572]? = some (.cells #[.int .i64 a1_0, .int .i64 a1_1, .bool a1_2] 37 (0, 0))) ∧ (w'.heap[gb573]? = some (.cells #[.int .i64 a2_0, .int .i64 a2_1, .bool a2_2] 37 (0, 0))) ∧ (w'.heap[s_]? = some (.cells #[.int .i64 0, .int .i64 0] 31 (0, 0))) ∧ (w.heap.size ≤ s_) ∧ (w.heap.size ≤ s_) ∧ (gb571 ≠ s_) ∧ (s_ ≠ gb571) ∧ (gb572 ≠ s_) ∧ (s_ ≠ gb572) ∧ (gb573 ≠ s_) ∧ (s_ ≠ gb573) ∧ (Below w.heap.size w w')) ?_ ?_
  rotate_left
  ·intro hJ1_3_5_6_7
   refine join_ (σ := Unit) 2 #[true, true, true, true, true, true, true, false, false] (fun s_ => [(10, .agg #[.int .i64 t574, .int .i64 t575, .bool t576]), (12, .agg #[.int .i64 t577, .int .i64 t578, .bool t579]), (14, .agg #[.int .i64 t580, .int .i64 t581, .bool t582]), (15, .agg #[.int .i64 t583, .int .i64 t584])]) (fun s_ w' => (w'.cell? ⟨gb571, 0, none⟩ = some (.int .i64 a0_0) ∧ w'.cell? ⟨gb571, 1, none⟩ = some (.int .i64 a0_1) ∧ w'.cell? ⟨gb571, 2, none⟩ = some (.bool a0_2) ∧ w'.cell? ⟨gb572, 0, none⟩ = some (.int .i64 a1_0) ∧ w'.cell? ⟨gb572, 1, none⟩ = some (.int .i64 a1_1) ∧ w'.cell? ⟨gb572, 2, none⟩ = some (.bool a1_2) ∧ w'.cell? ⟨gb573, 0, none⟩ = some (.int .i64 a2_0) ∧ w'.cell? ⟨gb573, 1, none⟩ = some (.int .i64 a2_1) ∧ w'.cell? ⟨gb573, 2, none⟩ = some (.bool a2_2)) ∧ (w'.heap[gb571]? = some (.cells #[.int .i64 a0_0, .int .i64 a0_1, .bool a0_2] 37 (0, 0))) ∧ (w'.heap[gb572]? = some (.cells #[.int .i64 a1_0, .int .i64 a1_1, .bool a1_2] 37 (0, 0))) ∧ (w'.heap[gb573]? = some (.cells #[.int .i64 a2_0, .int .i64 a2_1, .bool a2_2] 37 (0, 0))) ∧ (Below w.heap.size w w')) ?_ ?_
   rotate_left
   ·intro hJ1_3_5_6
    refine join_ (σ := Nat) 2 #[true, true, true, true, true, true, false, true, false] (fun s_ => [(10, .agg #[.int .i64 t574, .int .i64 t575, .bool t576]), (12, .agg #[.int .i64 t577, .int .i64 t578, .bool t579]), (14, .agg #[.int .i64 t580, .int .i64 t581, .bool t582]), (7, .pointer (some ⟨s_, 0, none⟩))]) (fun s_ w' => (w'.cell? ⟨gb571, 0, none⟩ = some (.int .i64 a0_0) ∧ w'.cell? ⟨gb571, 1, none⟩ = some (.int .i64 a0_1) ∧ w'.cell? ⟨gb571, 2, none⟩ = some (.bool a0_2) ∧ w'.cell? ⟨gb572, 0, none⟩ = some (.int .i64 a1_0) ∧ w'.cell? ⟨gb572, 1, none⟩ = some (.int .i64 a1_1) ∧ w'.cell? ⟨gb572, 2, none⟩ = some (.bool a1_2) ∧ w'.cell? ⟨gb573, 0, none⟩ = some (.int .i64 a2_0) ∧ w'.cell? ⟨gb573, 1, none⟩ = some (.int .i64 a2_1) ∧ w'.cell? ⟨gb573, 2, none⟩ = some (.bool a2_2)) ∧ (w'.heap[gb571]? = some (.cells #[.int .i64 a0_0, .int .i64 a0_1, .bool a0_2] 37 (0, 0))) ∧ (w'.heap[gb572]? = some (.cells #[.int .i64 a1_0, .int .i64 a1_1, .bool a1_2] 37 (0, 0))) ∧ (w'.heap[gb573]? = some (.cells #[.int .i64 a2_0, .int .i64 a2_1, .bool a2_2] 37 (0, 0))) ∧ (w'.heap[s_]? = some (.cells #[.int .i64 0, .int .i64 0] 31 (0, 0))) ∧ (w.heap.size ≤ s_) ∧ (w.heap.size ≤ s_) ∧ (gb571 ≠ s_) ∧ (s_ ≠ gb571) ∧ (gb572 ≠ s_) ∧ (s_ ≠ gb572) ∧ (gb573 ≠ s_) ∧ (s_ ≠ gb573) ∧ (Below w.heap.size w w')) ?_ ?_
    rotate_left
    ·intro hJ1_3_5_7
     refine join_ (σ := Unit) 3 #[true, true, true, true, true, true, false, false, false] (fun s_ => [(10, .agg #[.int .i64 t574, .int .i64 t575, .bool t576]), (12, .agg #[.int .i64 t577, .int .i64 t578, .bool t579]), (14, .agg #[.int .i64 t580, .int .i64 t581, .bool t582])]) (fun s_ w' => (w'.cell? ⟨gb571, 0, none⟩ = some (.int .i64 a0_0) ∧ w'.cell? ⟨gb571, 1, none⟩ = some (.int .i64 a0_1) ∧ w'.cell? ⟨gb571, 2, none⟩ = some (.bool a0_2) ∧ w'.cell? ⟨gb572, 0, none⟩ = some (.int .i64 a1_0) ∧ w'.cell? ⟨gb572, 1, none⟩ = some (.int .i64 a1_1) ∧ w'.cell? ⟨gb572, 2, none⟩ = some (.bool a1_2) ∧ w'.cell? ⟨gb573, 0, none⟩ = some (.int .i64 a2_0) ∧ w'.cell? ⟨gb573, 1, none⟩ = some (.int .i64 a2_1) ∧ w'.cell? ⟨gb573, 2, none⟩ = some (.bool a2_2)) ∧ (w'.heap[gb571]? = some (.cells #[.int .i64 a0_0, .int .i64 a0_1, .bool a0_2] 37 (0, 0))) ∧ (w'.heap[gb572]? = some (.cells #[.int .i64 a1_0, .int .i64 a1_1, .bool a1_2] 37 (0, 0))) ∧ (w'.heap[gb573]? = some (.cells #[.int .i64 a2_0, .int .i64 a2_1, .bool a2_2] 37 (0, 0))) ∧ (Below w.heap.size w w')) ?_ ?_
     rotate_left
     ·intro hJ1_3_5
      refine join_ (σ := Nat) 3 #[true, true, true, true, true, false, false, true, false] (fun s_ => [(10, .agg #[.int .i64 t574, .int .i64 t575, .bool t576]), (12, .agg #[.int .i64 t577, .int .i64 t578, .bool t579]), (7, .pointer (some ⟨s_, 0, none⟩))]) (fun s_ w' => (w'.cell? ⟨gb571, 0, none⟩ = some (.int .i64 a0_0) ∧ w'.cell? ⟨gb571, 1, none⟩ = some (.int .i64 a0_1) ∧ w'.cell? ⟨gb571, 2, none⟩ = some (.bool a0_2) ∧ w'.cell? ⟨gb572, 0, none⟩ = some (.int .i64 a1_0) ∧ w'.cell? ⟨gb572, 1, none⟩ = some (.int .i64 a1_1) ∧ w'.cell? ⟨gb572, 2, none⟩ = some (.bool a1_2) ∧ w'.cell? ⟨gb573, 0, none⟩ = some (.int .i64 a2_0) ∧ w'.cell? ⟨gb573, 1, none⟩ = some (.int .i64 a2_1) ∧ w'.cell? ⟨gb573, 2, none⟩ = some (.bool a2_2)) ∧ (w'.heap[gb571]? = some (.cells #[.int .i64 a0_0, .int .i64 a0_1, .bool a0_2] 37 (0, 0))) ∧ (w'.heap[gb572]? = some (.cells #[.int .i64 a1_0, .int .i64 a1_1, .bool a1_2] 37 (0, 0))) ∧ (w'.heap[gb573]? = some (.cells #[.int .i64 a2_0, .int .i64 a2_1, .bool a2_2] 37 (0, 0))) ∧ (w'.heap[s_]? = some (.cells #[.int .i64 0, .int .i64 0] 31 (0, 0))) ∧ (w.heap.size ≤ s_) ∧ (w.heap.size ≤ s_) ∧ (gb571 ≠ s_) ∧ (s_ ≠ gb571) ∧ (gb572 ≠ s_) ∧ (s_ ≠ gb572) ∧ (gb573 ≠ s_) ∧ (s_ ≠ gb573) ∧ (Below w.heap.size w w')) ?_ ?_
      rotate_left
      ·intro hJ1_3_7
       refine join_ (σ := Unit) 4 #[true, true, true, true, true, false, false, false, false] (fun s_ => [(10, .agg #[.int .i64 t574, .int .i64 t575, .bool t576]), (12, .agg #[.int .i64 t577, .int .i64 t578, .bool t579])]) (fun s_ w' => (w'.cell? ⟨gb571, 0, none⟩ = some (.int .i64 a0_0) ∧ w'.cell? ⟨gb571, 1, none⟩ = some (.int .i64 a0_1) ∧ w'.cell? ⟨gb571, 2, none⟩ = some (.bool a0_2) ∧ w'.cell? ⟨gb572, 0, none⟩ = some (.int .i64 a1_0) ∧ w'.cell? ⟨gb572, 1, none⟩ = some (.int .i64 a1_1) ∧ w'.cell? ⟨gb572, 2, none⟩ = some (.bool a1_2) ∧ w'.cell? ⟨gb573, 0, none⟩ = some (.int .i64 a2_0) ∧ w'.cell? ⟨gb573, 1, none⟩ = some (.int .i64 a2_1) ∧ w'.cell? ⟨gb573, 2, none⟩ = some (.bool a2_2)) ∧ (w'.heap[gb571]? = some (.cells #[.int .i64 a0_0, .int .i64 a0_1, .bool a0_2] 37 (0, 0))) ∧ (w'.heap[gb572]? = some (.cells #[.int .i64 a1_0, .int .i64 a1_1, .bool a1_2] 37 (0, 0))) ∧ (w'.heap[gb573]? = some (.cells #[.int .i64 a2_0, .int .i64 a2_1, .bool a2_2] 37 (0, 0))) ∧ (Below w.heap.size w w')) ?_ ?_
       rotate_left
       ·intro hJ1_3
        refine join_ (σ := Nat) 4 #[true, true, true, false, true, false, false, true, false] (fun s_ => [(10, .agg #[.int .i64 t574, .int .i64 t575, .bool t576]), (7, .pointer (some ⟨s_, 0, none⟩))]) (fun s_ w' => (w'.cell? ⟨gb571, 0, none⟩ = some (.int .i64 a0_0) ∧ w'.cell? ⟨gb571, 1, none⟩ = some (.int .i64 a0_1) ∧ w'.cell? ⟨gb571, 2, none⟩ = some (.bool a0_2) ∧ w'.cell? ⟨gb572, 0, none⟩ = some (.int .i64 a1_0) ∧ w'.cell? ⟨gb572, 1, none⟩ = some (.int .i64 a1_1) ∧ w'.cell? ⟨gb572, 2, none⟩ = some (.bool a1_2) ∧ w'.cell? ⟨gb573, 0, none⟩ = some (.int .i64 a2_0) ∧ w'.cell? ⟨gb573, 1, none⟩ = some (.int .i64 a2_1) ∧ w'.cell? ⟨gb573, 2, none⟩ = some (.bool a2_2)) ∧ (w'.heap[gb571]? = some (.cells #[.int .i64 a0_0, .int .i64 a0_1, .bool a0_2] 37 (0, 0))) ∧ (w'.heap[gb572]? = some (.cells #[.int .i64 a1_0, .int .i64 a1_1, .bool a1_2] 37 (0, 0))) ∧ (w'.heap[gb573]? = some (.cells #[.int .i64 a2_0, .int .i64 a2_1, .bool a2_2] 37 (0, 0))) ∧ (w'.heap[s_]? = some (.cells #[.int .i64 0, .int .i64 0] 31 (0, 0))) ∧ (w.heap.size ≤ s_) ∧ (w.heap.size ≤ s_) ∧ (gb571 ≠ s_) ∧ (s_ ≠ gb571) ∧ (gb572 ≠ s_) ∧ (s_ ≠ gb572) ∧ (gb573 ≠ s_) ∧ (s_ ≠ gb573) ∧ (Below w.heap.size w w')) ?_ ?_
        rotate_left
        ·intro hJ1_7
         refine join_ (σ := Unit) 5 #[true, true, true, false, true, false, false, false, false] (fun s_ => [(10, .agg #[.int .i64 t574, .int .i64 t575, .bool t576])]) (fun s_ w' => (w'.cell? ⟨gb571, 0, none⟩ = some (.int .i64 a0_0) ∧ w'.cell? ⟨gb571, 1, none⟩ = some (.int .i64 a0_1) ∧ w'.cell? ⟨gb571, 2, none⟩ = some (.bool a0_2) ∧ w'.cell? ⟨gb572, 0, none⟩ = some (.int .i64 a1_0) ∧ w'.cell? ⟨gb572, 1, none⟩ = some (.int .i64 a1_1) ∧ w'.cell? ⟨gb572, 2, none⟩ = some (.bool a1_2) ∧ w'.cell? ⟨gb573, 0, none⟩ = some (.int .i64 a2_0) ∧ w'.cell? ⟨gb573, 1, none⟩ = some (.int .i64 a2_1) ∧ w'.cell? ⟨gb573, 2, none⟩ = some (.bool a2_2)) ∧ (w'.heap[gb571]? = some (.cells #[.int .i64 a0_0, .int .i64 a0_1, .bool a0_2] 37 (0, 0))) ∧ (w'.heap[gb572]? = some (.cells #[.int .i64 a1_0, .int .i64 a1_1, .bool a1_2] 37 (0, 0))) ∧ (w'.heap[gb573]? = some (.cells #[.int .i64 a2_0, .int .i64 a2_1, .bool a2_2] 37 (0, 0))) ∧ (Below w.heap.size w w')) ?_ ?_
         rotate_left
         ·intro hJ1
          refine join_ (σ := Nat) 5 #[true, false, true, false, true, false, false, true, false] (fun s_ => [(7, .pointer (some ⟨s_, 0, none⟩))]) (fun s_ w' => (w'.cell? ⟨gb571, 0, none⟩ = some (.int .i64 a0_0) ∧ w'.cell? ⟨gb571, 1, none⟩ = some (.int .i64 a0_1) ∧ w'.cell? ⟨gb571, 2, none⟩ = some (.bool a0_2) ∧ w'.cell? ⟨gb572, 0, none⟩ = some (.int .i64 a1_0) ∧ w'.cell? ⟨gb572, 1, none⟩ = some (.int .i64 a1_1) ∧ w'.cell? ⟨gb572, 2, none⟩ = some (.bool a1_2) ∧ w'.cell? ⟨gb573, 0, none⟩ = some (.int .i64 a2_0) ∧ w'.cell? ⟨gb573, 1, none⟩ = some (.int .i64 a2_1) ∧ w'.cell? ⟨gb573, 2, none⟩ = some (.bool a2_2)) ∧ (w'.heap[gb571]? = some (.cells #[.int .i64 a0_0, .int .i64 a0_1, .bool a0_2] 37 (0, 0))) ∧ (w'.heap[gb572]? = some (.cells #[.int .i64 a1_0, .int .i64 a1_1, .bool a1_2] 37 (0, 0))) ∧ (w'.heap[gb573]? = some (.cells #[.int .i64 a2_0, .int .i64 a2_1, .bool a2_2] 37 (0, 0))) ∧ (w'.heap[s_]? = some (.cells #[.int .i64 0, .int .i64 0] 31 (0, 0))) ∧ (w.heap.size ≤ s_) ∧ (w.heap.size ≤ s_) ∧ (gb571 ≠ s_) ∧ (s_ ≠ gb571) ∧ (gb572 ≠ s_) ∧ (s_ ≠ gb572) ∧ (gb573 ≠ s_) ∧ (s_ ≠ gb573) ∧ (Below w.heap.size w w')) ?_ ?_
          rotate_left
          ·intro hJ7
           refine two_ (i := 1) (j := 7) (Ni := some 10) (Nj := some 7) #[true, true, true, false, true, false, false, false, false] #[true, false, true, false, true, false, false, true, false] rfl rfl rfl rfl (two_of HT_.out (by kernel_rfl)) (by decide) (by decide) (fun K hK => ?_) (fun K hK => ?_)
           ·skip
            refine goes_ Try.func24 (by kernel_rfl) rfl #[.agg #[.int .i64 a0_0, .int .i64 a0_1, .bool a0_2]] (by rfl) rfl rfl (by (try simp only [List.map_toArray, List.map_cons, List.map_nil]); first | done | rfl | (simp only [List.length_drop, List.length_take]; rfl)) ?_
            with_reducible refine (laws_toPoint.calls a0_0 a0_1 a0_2 t574 t575 t576 _ A4.out).mono ?_
            rintro e w18 ⟨rfl, hb⟩
            refine ⟨_, rfl, ?_⟩
            replace BK571 := bB BK571 hb
            replace BK572 := bB BK572 hb
            replace BK573 := bB BK573 hb
            replace HB := bS HB hb
            (try clear hb)
            (try clear hb2)
            (try clear hk)
            (try clear hi)
            refine hK.out _ _ ⟨bc BK571 0, bc BK571 1, bc BK571 2, bc BK572 0, bc BK572 1, bc BK572 2, bc BK573 0, bc BK573 1, bc BK573 2⟩ (fun hHeld => ?_)
            clear hK K
            refine norm_ (a' := ?_) ?_ ?_
            rotate_left
            ·show Act.put _ (some 10) _ = _
             simp only [Act.put, List.setIfInBounds_toArray, List.set_cons_zero, List.set_cons_succ, i64_w, i32_w]
             rfl
            exact norm_ (by first | (simp only [putAll, Act.put, List.setIfInBounds_toArray, List.set_cons_zero, List.set_cons_succ]; done) | (simp only [putAll, Act.put, List.setIfInBounds_toArray, List.set_cons_zero, List.set_cons_succ]; rfl)) (hJ1 () _ ⟨hHeld, (bP BK571), (bP BK572), (bP BK573), (bZ HB)⟩)
           ·skip
            refine box_step ?hg (N := 7) ?hd (cs := #[.int .i64 0, .int .i64 0]) (t := 31) ?hr ?_; (case hd => rfl); (case hg => rfl); (case hr => first | (go_simp; done) | (go_simp; rfl))
            intro gb585 hg w18 hbox hb
            have BK585 := Aside0.mk (hbox)
            have GW585 := bG HB hg
            have GE585 := bG HB hg
            replace HB := bS HB hb
            have NB571_585 := bL BK571 hg
            have NB585_571 := bR BK571 hg
            replace BK571 := bB BK571 hb
            have NB572_585 := bL BK572 hg
            have NB585_572 := bR BK572 hg
            replace BK572 := bB BK572 hb
            have NB573_585 := bL BK573 hg
            have NB585_573 := bR BK573 hg
            replace BK573 := bB BK573 hb
            clear hb hbox hg
            refine hK.out _ _ ⟨bc BK571 0, bc BK571 1, bc BK571 2, bc BK572 0, bc BK572 1, bc BK572 2, bc BK573 0, bc BK573 1, bc BK573 2⟩ (fun hHeld => ?_)
            clear hK K
            refine norm_ (a' := ?_) ?_ ?_
            rotate_left
            ·show Act.put _ (some 7) _ = _
             simp only [Act.put, List.setIfInBounds_toArray, List.set_cons_zero, List.set_cons_succ, i64_w, i32_w]
             rfl
            exact norm_ (by first | (simp only [putAll, Act.put, List.setIfInBounds_toArray, List.set_cons_zero, List.set_cons_succ]; done) | (simp only [putAll, Act.put, List.setIfInBounds_toArray, List.set_cons_zero, List.set_cons_succ]; rfl)) (hJ7 (gb585) _ ⟨hHeld, (bP BK571), (bP BK572), (bP BK573), (bP BK585), GW585.out, GE585.out, NB571_585.out, NB585_571.out, NB572_585.out, NB585_572.out, NB573_585.out, NB585_573.out, (bZ HB)⟩)
          ·skip
           rintro gb585 w19 ⟨hS_, h0_, h1_, h2_, h3_, h4_, h5_, h6_, h7_, h8_, h9_, h10_, h11_, h12_⟩
           replace BK571 : Aside0 (w19.heap[gb571]? = some (.cells #[.int .i64 a0_0, .int .i64 a0_1, .bool a0_2] 37 (0, 0))) := ⟨h0_⟩
           replace BK572 : Aside0 (w19.heap[gb572]? = some (.cells #[.int .i64 a1_0, .int .i64 a1_1, .bool a1_2] 37 (0, 0))) := ⟨h1_⟩
           replace BK573 : Aside0 (w19.heap[gb573]? = some (.cells #[.int .i64 a2_0, .int .i64 a2_1, .bool a2_2] 37 (0, 0))) := ⟨h2_⟩
           have BK585 : Aside0 (w19.heap[gb585]? = some (.cells #[.int .i64 0, .int .i64 0] 31 (0, 0))) := ⟨h3_⟩
           have GW585 : Aside0 (w.heap.size ≤ gb585) := ⟨h4_⟩
           have GE585 : Aside0 (w.heap.size ≤ gb585) := ⟨h5_⟩
           have NB571_585 : Aside0 (gb571 ≠ gb585) := ⟨h6_⟩
           have NB585_571 : Aside0 (gb585 ≠ gb571) := ⟨h7_⟩
           have NB572_585 : Aside0 (gb572 ≠ gb585) := ⟨h8_⟩
           have NB585_572 : Aside0 (gb585 ≠ gb572) := ⟨h9_⟩
           have NB573_585 : Aside0 (gb573 ≠ gb585) := ⟨h10_⟩
           have NB585_573 : Aside0 (gb585 ≠ gb573) := ⟨h11_⟩
           replace HB : Aside0 (Below w.heap.size w w19) := ⟨h12_⟩
           clear h0_ h1_ h2_ h3_ h4_ h5_ h6_ h7_ h8_ h9_ h10_ h11_ h12_
           have hHeld : w19.cell? ⟨gb571, 0, none⟩ = some (.int .i64 a0_0) ∧ w19.cell? ⟨gb571, 1, none⟩ = some (.int .i64 a0_1) ∧ w19.cell? ⟨gb571, 2, none⟩ = some (.bool a0_2) ∧ w19.cell? ⟨gb572, 0, none⟩ = some (.int .i64 a1_0) ∧ w19.cell? ⟨gb572, 1, none⟩ = some (.int .i64 a1_1) ∧ w19.cell? ⟨gb572, 2, none⟩ = some (.bool a1_2) ∧ w19.cell? ⟨gb573, 0, none⟩ = some (.int .i64 a2_0) ∧ w19.cell? ⟨gb573, 1, none⟩ = some (.int .i64 a2_1) ∧ w19.cell? ⟨gb573, 2, none⟩ = some (.bool a2_2) := hS_
           refine norm_ (a' := ?_) ?_ ?_
           rotate_left
           ·simp only [putAll, Act.put, List.setIfInBounds_toArray, List.set_cons_zero, List.set_cons_succ]
            rfl
           refine one_ (i := 1) (N := some 10) #[true, true, true, false, true, false, false, true, false] rfl rfl (one_of HT_.out (by kernel_rfl)) (by decide) (fun K hK => ?_)
           refine goes_ Try.func24 (by kernel_rfl) rfl #[.agg #[.int .i64 a0_0, .int .i64 a0_1, .bool a0_2]] (by rfl) rfl rfl (by (try simp only [List.map_toArray, List.map_cons, List.map_nil]); first | done | rfl | (simp only [List.length_drop, List.length_take]; rfl)) ?_
           with_reducible refine (laws_toPoint.calls a0_0 a0_1 a0_2 t574 t575 t576 _ A4.out).mono ?_
           rintro e w20 ⟨rfl, hb⟩
           refine ⟨_, rfl, ?_⟩
           replace BK571 := bB BK571 hb
           replace BK572 := bB BK572 hb
           replace BK573 := bB BK573 hb
           replace BK585 := bB BK585 hb
           replace HB := bS HB hb
           (try clear hb)
           (try clear hb2)
           (try clear hk)
           (try clear hi)
           refine hK.out _ _ ⟨bc BK571 0, bc BK571 1, bc BK571 2, bc BK572 0, bc BK572 1, bc BK572 2, bc BK573 0, bc BK573 1, bc BK573 2⟩ (fun hHeld => ?_)
           clear hK K
           refine norm_ (a' := ?_) ?_ ?_
           rotate_left
           ·show Act.put _ (some 10) _ = _
            simp only [Act.put, List.setIfInBounds_toArray, List.set_cons_zero, List.set_cons_succ, i64_w, i32_w]
            rfl
           exact norm_ (by first | (simp only [putAll, Act.put, List.setIfInBounds_toArray, List.set_cons_zero, List.set_cons_succ]; done) | (simp only [putAll, Act.put, List.setIfInBounds_toArray, List.set_cons_zero, List.set_cons_succ]; rfl)) (hJ1_7 (gb585) _ ⟨hHeld, (bP BK571), (bP BK572), (bP BK573), (bP BK585), GW585.out, GE585.out, NB571_585.out, NB585_571.out, NB572_585.out, NB585_572.out, NB573_585.out, NB585_573.out, (bZ HB)⟩)
         ·skip
          rintro _ w19 ⟨hS_, h0_, h1_, h2_, h3_⟩
          replace BK571 : Aside0 (w19.heap[gb571]? = some (.cells #[.int .i64 a0_0, .int .i64 a0_1, .bool a0_2] 37 (0, 0))) := ⟨h0_⟩
          replace BK572 : Aside0 (w19.heap[gb572]? = some (.cells #[.int .i64 a1_0, .int .i64 a1_1, .bool a1_2] 37 (0, 0))) := ⟨h1_⟩
          replace BK573 : Aside0 (w19.heap[gb573]? = some (.cells #[.int .i64 a2_0, .int .i64 a2_1, .bool a2_2] 37 (0, 0))) := ⟨h2_⟩
          replace HB : Aside0 (Below w.heap.size w w19) := ⟨h3_⟩
          clear h0_ h1_ h2_ h3_
          have hHeld : w19.cell? ⟨gb571, 0, none⟩ = some (.int .i64 a0_0) ∧ w19.cell? ⟨gb571, 1, none⟩ = some (.int .i64 a0_1) ∧ w19.cell? ⟨gb571, 2, none⟩ = some (.bool a0_2) ∧ w19.cell? ⟨gb572, 0, none⟩ = some (.int .i64 a1_0) ∧ w19.cell? ⟨gb572, 1, none⟩ = some (.int .i64 a1_1) ∧ w19.cell? ⟨gb572, 2, none⟩ = some (.bool a1_2) ∧ w19.cell? ⟨gb573, 0, none⟩ = some (.int .i64 a2_0) ∧ w19.cell? ⟨gb573, 1, none⟩ = some (.int .i64 a2_1) ∧ w19.cell? ⟨gb573, 2, none⟩ = some (.bool a2_2) := hS_
          refine norm_ (a' := ?_) ?_ ?_
          rotate_left
          ·simp only [putAll, Act.put, List.setIfInBounds_toArray, List.set_cons_zero, List.set_cons_succ]
           rfl
          refine two_ (i := 3) (j := 7) (Ni := some 12) (Nj := some 7) #[true, true, true, true, true, false, false, false, false] #[true, true, true, false, true, false, false, true, false] rfl rfl rfl rfl (two_of HT_.out (by kernel_rfl)) (by decide) (by decide) (fun K hK => ?_) (fun K hK => ?_)
          ·skip
           refine goes_ Try.func24 (by kernel_rfl) rfl #[.agg #[.int .i64 a1_0, .int .i64 a1_1, .bool a1_2]] (by rfl) rfl rfl (by (try simp only [List.map_toArray, List.map_cons, List.map_nil]); first | done | rfl | (simp only [List.length_drop, List.length_take]; rfl)) ?_
           with_reducible refine (laws_toPoint.calls a1_0 a1_1 a1_2 t577 t578 t579 _ A5.out).mono ?_
           rintro e w20 ⟨rfl, hb⟩
           refine ⟨_, rfl, ?_⟩
           replace BK571 := bB BK571 hb
           replace BK572 := bB BK572 hb
           replace BK573 := bB BK573 hb
           replace HB := bS HB hb
           (try clear hb)
           (try clear hb2)
           (try clear hk)
           (try clear hi)
           refine hK.out _ _ ⟨bc BK571 0, bc BK571 1, bc BK571 2, bc BK572 0, bc BK572 1, bc BK572 2, bc BK573 0, bc BK573 1, bc BK573 2⟩ (fun hHeld => ?_)
           clear hK K
           refine norm_ (a' := ?_) ?_ ?_
           rotate_left
           ·show Act.put _ (some 12) _ = _
            simp only [Act.put, List.setIfInBounds_toArray, List.set_cons_zero, List.set_cons_succ, i64_w, i32_w]
            rfl
           exact norm_ (by first | (simp only [putAll, Act.put, List.setIfInBounds_toArray, List.set_cons_zero, List.set_cons_succ]; done) | (simp only [putAll, Act.put, List.setIfInBounds_toArray, List.set_cons_zero, List.set_cons_succ]; rfl)) (hJ1_3 () _ ⟨hHeld, (bP BK571), (bP BK572), (bP BK573), (bZ HB)⟩)
          ·skip
           refine box_step ?hg (N := 7) ?hd (cs := #[.int .i64 0, .int .i64 0]) (t := 31) ?hr ?_; (case hd => rfl); (case hg => rfl); (case hr => first | (go_simp; done) | (go_simp; rfl))
           intro gb585 hg w20 hbox hb
           have BK585 := Aside0.mk (hbox)
           have GW585 := bG HB hg
           have GE585 := bG HB hg
           replace HB := bS HB hb
           have NB571_585 := bL BK571 hg
           have NB585_571 := bR BK571 hg
           replace BK571 := bB BK571 hb
           have NB572_585 := bL BK572 hg
           have NB585_572 := bR BK572 hg
           replace BK572 := bB BK572 hb
           have NB573_585 := bL BK573 hg
           have NB585_573 := bR BK573 hg
           replace BK573 := bB BK573 hb
           clear hb hbox hg
           refine hK.out _ _ ⟨bc BK571 0, bc BK571 1, bc BK571 2, bc BK572 0, bc BK572 1, bc BK572 2, bc BK573 0, bc BK573 1, bc BK573 2⟩ (fun hHeld => ?_)
           clear hK K
           refine norm_ (a' := ?_) ?_ ?_
           rotate_left
           ·show Act.put _ (some 7) _ = _
            simp only [Act.put, List.setIfInBounds_toArray, List.set_cons_zero, List.set_cons_succ, i64_w, i32_w]
            rfl
           exact norm_ (by first | (simp only [putAll, Act.put, List.setIfInBounds_toArray, List.set_cons_zero, List.set_cons_succ]; done) | (simp only [putAll, Act.put, List.setIfInBounds_toArray, List.set_cons_zero, List.set_cons_succ]; rfl)) (hJ1_7 (gb585) _ ⟨hHeld, (bP BK571), (bP BK572), (bP BK573), (bP BK585), GW585.out, GE585.out, NB571_585.out, NB585_571.out, NB572_585.out, NB585_572.out, NB573_585.out, NB585_573.out, (bZ HB)⟩)
        ·skip
         rintro gb585 w20 ⟨hS_, h0_, h1_, h2_, h3_, h4_, h5_, h6_, h7_, h8_, h9_, h10_, h11_, h12_⟩
         replace BK571 : Aside0 (w20.heap[gb571]? = some (.cells #[.int .i64 a0_0, .int .i64 a0_1, .bool a0_2] 37 (0, 0))) := ⟨h0_⟩
         replace BK572 : Aside0 (w20.heap[gb572]? = some (.cells #[.int .i64 a1_0, .int .i64 a1_1, .bool a1_2] 37 (0, 0))) := ⟨h1_⟩
         replace BK573 : Aside0 (w20.heap[gb573]? = some (.cells #[.int .i64 a2_0, .int .i64 a2_1, .bool a2_2] 37 (0, 0))) := ⟨h2_⟩
         have BK585 : Aside0 (w20.heap[gb585]? = some (.cells #[.int .i64 0, .int .i64 0] 31 (0, 0))) := ⟨h3_⟩
         have GW585 : Aside0 (w.heap.size ≤ gb585) := ⟨h4_⟩
         have GE585 : Aside0 (w.heap.size ≤ gb585) := ⟨h5_⟩
         have NB571_585 : Aside0 (gb571 ≠ gb585) := ⟨h6_⟩
         have NB585_571 : Aside0 (gb585 ≠ gb571) := ⟨h7_⟩
         have NB572_585 : Aside0 (gb572 ≠ gb585) := ⟨h8_⟩
         have NB585_572 : Aside0 (gb585 ≠ gb572) := ⟨h9_⟩
         have NB573_585 : Aside0 (gb573 ≠ gb585) := ⟨h10_⟩
         have NB585_573 : Aside0 (gb585 ≠ gb573) := ⟨h11_⟩
         replace HB : Aside0 (Below w.heap.size w w20) := ⟨h12_⟩
         clear h0_ h1_ h2_ h3_ h4_ h5_ h6_ h7_ h8_ h9_ h10_ h11_ h12_
         have hHeld : w20.cell? ⟨gb571, 0, none⟩ = some (.int .i64 a0_0) ∧ w20.cell? ⟨gb571, 1, none⟩ = some (.int .i64 a0_1) ∧ w20.cell? ⟨gb571, 2, none⟩ = some (.bool a0_2) ∧ w20.cell? ⟨gb572, 0, none⟩ = some (.int .i64 a1_0) ∧ w20.cell? ⟨gb572, 1, none⟩ = some (.int .i64 a1_1) ∧ w20.cell? ⟨gb572, 2, none⟩ = some (.bool a1_2) ∧ w20.cell? ⟨gb573, 0, none⟩ = some (.int .i64 a2_0) ∧ w20.cell? ⟨gb573, 1, none⟩ = some (.int .i64 a2_1) ∧ w20.cell? ⟨gb573, 2, none⟩ = some (.bool a2_2) := hS_
         refine norm_ (a' := ?_) ?_ ?_
         rotate_left
         ·simp only [putAll, Act.put, List.setIfInBounds_toArray, List.set_cons_zero, List.set_cons_succ]
          rfl
         refine one_ (i := 3) (N := some 12) #[true, true, true, true, true, false, false, true, false] rfl rfl (one_of HT_.out (by kernel_rfl)) (by decide) (fun K hK => ?_)
         refine goes_ Try.func24 (by kernel_rfl) rfl #[.agg #[.int .i64 a1_0, .int .i64 a1_1, .bool a1_2]] (by rfl) rfl rfl (by (try simp only [List.map_toArray, List.map_cons, List.map_nil]); first | done | rfl | (simp only [List.length_drop, List.length_take]; rfl)) ?_
         with_reducible refine (laws_toPoint.calls a1_0 a1_1 a1_2 t577 t578 t579 _ A5.out).mono ?_
         rintro e w21 ⟨rfl, hb⟩
         refine ⟨_, rfl, ?_⟩
         replace BK571 := bB BK571 hb
         replace BK572 := bB BK572 hb
         replace BK573 := bB BK573 hb
         replace BK585 := bB BK585 hb
         replace HB := bS HB hb
         (try clear hb)
         (try clear hb2)
         (try clear hk)
         (try clear hi)
         refine hK.out _ _ ⟨bc BK571 0, bc BK571 1, bc BK571 2, bc BK572 0, bc BK572 1, bc BK572 2, bc BK573 0, bc BK573 1, bc BK573 2⟩ (fun hHeld => ?_)
         clear hK K
         refine norm_ (a' := ?_) ?_ ?_
         rotate_left
         ·show Act.put _ (some 12) _ = _
          simp only [Act.put, List.setIfInBounds_toArray, List.set_cons_zero, List.set_cons_succ, i64_w, i32_w]
          rfl
         exact norm_ (by first | (simp only [putAll, Act.put, List.setIfInBounds_toArray, List.set_cons_zero, List.set_cons_succ]; done) | (simp only [putAll, Act.put, List.setIfInBounds_toArray, List.set_cons_zero, List.set_cons_succ]; rfl)) (hJ1_3_7 (gb585) _ ⟨hHeld, (bP BK571), (bP BK572), (bP BK573), (bP BK585), GW585.out, GE585.out, NB571_585.out, NB585_571.out, NB572_585.out, NB585_572.out, NB573_585.out, NB585_573.out, (bZ HB)⟩)
       ·skip
        rintro _ w20 ⟨hS_, h0_, h1_, h2_, h3_⟩
        replace BK571 : Aside0 (w20.heap[gb571]? = some (.cells #[.int .i64 a0_0, .int .i64 a0_1, .bool a0_2] 37 (0, 0))) := ⟨h0_⟩
        replace BK572 : Aside0 (w20.heap[gb572]? = some (.cells #[.int .i64 a1_0, .int .i64 a1_1, .bool a1_2] 37 (0, 0))) := ⟨h1_⟩
        replace BK573 : Aside0 (w20.heap[gb573]? = some (.cells #[.int .i64 a2_0, .int .i64 a2_1, .bool a2_2] 37 (0, 0))) := ⟨h2_⟩
        replace HB : Aside0 (Below w.heap.size w w20) := ⟨h3_⟩
        clear h0_ h1_ h2_ h3_
        have hHeld : w20.cell? ⟨gb571, 0, none⟩ = some (.int .i64 a0_0) ∧ w20.cell? ⟨gb571, 1, none⟩ = some (.int .i64 a0_1) ∧ w20.cell? ⟨gb571, 2, none⟩ = some (.bool a0_2) ∧ w20.cell? ⟨gb572, 0, none⟩ = some (.int .i64 a1_0) ∧ w20.cell? ⟨gb572, 1, none⟩ = some (.int .i64 a1_1) ∧ w20.cell? ⟨gb572, 2, none⟩ = some (.bool a1_2) ∧ w20.cell? ⟨gb573, 0, none⟩ = some (.int .i64 a2_0) ∧ w20.cell? ⟨gb573, 1, none⟩ = some (.int .i64 a2_1) ∧ w20.cell? ⟨gb573, 2, none⟩ = some (.bool a2_2) := hS_
        refine norm_ (a' := ?_) ?_ ?_
        rotate_left
        ·simp only [putAll, Act.put, List.setIfInBounds_toArray, List.set_cons_zero, List.set_cons_succ]
         rfl
        refine two_ (i := 5) (j := 7) (Ni := some 14) (Nj := some 7) #[true, true, true, true, true, true, false, false, false] #[true, true, true, true, true, false, false, true, false] rfl rfl rfl rfl (two_of HT_.out (by kernel_rfl)) (by decide) (by decide) (fun K hK => ?_) (fun K hK => ?_)
        ·skip
         refine goes_ Try.func24 (by kernel_rfl) rfl #[.agg #[.int .i64 a2_0, .int .i64 a2_1, .bool a2_2]] (by rfl) rfl rfl (by (try simp only [List.map_toArray, List.map_cons, List.map_nil]); first | done | rfl | (simp only [List.length_drop, List.length_take]; rfl)) ?_
         with_reducible refine (laws_toPoint.calls a2_0 a2_1 a2_2 t580 t581 t582 _ A6.out).mono ?_
         rintro e w21 ⟨rfl, hb⟩
         refine ⟨_, rfl, ?_⟩
         replace BK571 := bB BK571 hb
         replace BK572 := bB BK572 hb
         replace BK573 := bB BK573 hb
         replace HB := bS HB hb
         (try clear hb)
         (try clear hb2)
         (try clear hk)
         (try clear hi)
         refine hK.out _ _ ⟨bc BK571 0, bc BK571 1, bc BK571 2, bc BK572 0, bc BK572 1, bc BK572 2, bc BK573 0, bc BK573 1, bc BK573 2⟩ (fun hHeld => ?_)
         clear hK K
         refine norm_ (a' := ?_) ?_ ?_
         rotate_left
         ·show Act.put _ (some 14) _ = _
          simp only [Act.put, List.setIfInBounds_toArray, List.set_cons_zero, List.set_cons_succ, i64_w, i32_w]
          rfl
         exact norm_ (by first | (simp only [putAll, Act.put, List.setIfInBounds_toArray, List.set_cons_zero, List.set_cons_succ]; done) | (simp only [putAll, Act.put, List.setIfInBounds_toArray, List.set_cons_zero, List.set_cons_succ]; rfl)) (hJ1_3_5 () _ ⟨hHeld, (bP BK571), (bP BK572), (bP BK573), (bZ HB)⟩)
        ·skip
         refine box_step ?hg (N := 7) ?hd (cs := #[.int .i64 0, .int .i64 0]) (t := 31) ?hr ?_; (case hd => rfl); (case hg => rfl); (case hr => first | (go_simp; done) | (go_simp; rfl))
         intro gb585 hg w21 hbox hb
         have BK585 := Aside0.mk (hbox)
         have GW585 := bG HB hg
         have GE585 := bG HB hg
         replace HB := bS HB hb
         have NB571_585 := bL BK571 hg
         have NB585_571 := bR BK571 hg
         replace BK571 := bB BK571 hb
         have NB572_585 := bL BK572 hg
         have NB585_572 := bR BK572 hg
         replace BK572 := bB BK572 hb
         have NB573_585 := bL BK573 hg
         have NB585_573 := bR BK573 hg
         replace BK573 := bB BK573 hb
         clear hb hbox hg
         refine hK.out _ _ ⟨bc BK571 0, bc BK571 1, bc BK571 2, bc BK572 0, bc BK572 1, bc BK572 2, bc BK573 0, bc BK573 1, bc BK573 2⟩ (fun hHeld => ?_)
         clear hK K
         refine norm_ (a' := ?_) ?_ ?_
         rotate_left
         ·show Act.put _ (some 7) _ = _
          simp only [Act.put, List.setIfInBounds_toArray, List.set_cons_zero, List.set_cons_succ, i64_w, i32_w]
          rfl
         exact norm_ (by first | (simp only [putAll, Act.put, List.setIfInBounds_toArray, List.set_cons_zero, List.set_cons_succ]; done) | (simp only [putAll, Act.put, List.setIfInBounds_toArray, List.set_cons_zero, List.set_cons_succ]; rfl)) (hJ1_3_7 (gb585) _ ⟨hHeld, (bP BK571), (bP BK572), (bP BK573), (bP BK585), GW585.out, GE585.out, NB571_585.out, NB585_571.out, NB572_585.out, NB585_572.out, NB573_585.out, NB585_573.out, (bZ HB)⟩)
      ·skip
       rintro gb585 w21 ⟨hS_, h0_, h1_, h2_, h3_, h4_, h5_, h6_, h7_, h8_, h9_, h10_, h11_, h12_⟩
       replace BK571 : Aside0 (w21.heap[gb571]? = some (.cells #[.int .i64 a0_0, .int .i64 a0_1, .bool a0_2] 37 (0, 0))) := ⟨h0_⟩
       replace BK572 : Aside0 (w21.heap[gb572]? = some (.cells #[.int .i64 a1_0, .int .i64 a1_1, .bool a1_2] 37 (0, 0))) := ⟨h1_⟩
       replace BK573 : Aside0 (w21.heap[gb573]? = some (.cells #[.int .i64 a2_0, .int .i64 a2_1, .bool a2_2] 37 (0, 0))) := ⟨h2_⟩
       have BK585 : Aside0 (w21.heap[gb585]? = some (.cells #[.int .i64 0, .int .i64 0] 31 (0, 0))) := ⟨h3_⟩
       have GW585 : Aside0 (w.heap.size ≤ gb585) := ⟨h4_⟩
       have GE585 : Aside0 (w.heap.size ≤ gb585) := ⟨h5_⟩
       have NB571_585 : Aside0 (gb571 ≠ gb585) := ⟨h6_⟩
       have NB585_571 : Aside0 (gb585 ≠ gb571) := ⟨h7_⟩
       have NB572_585 : Aside0 (gb572 ≠ gb585) := ⟨h8_⟩
       have NB585_572 : Aside0 (gb585 ≠ gb572) := ⟨h9_⟩
       have NB573_585 : Aside0 (gb573 ≠ gb585) := ⟨h10_⟩
       have NB585_573 : Aside0 (gb585 ≠ gb573) := ⟨h11_⟩
       replace HB : Aside0 (Below w.heap.size w w21) := ⟨h12_⟩
       clear h0_ h1_ h2_ h3_ h4_ h5_ h6_ h7_ h8_ h9_ h10_ h11_ h12_
       have hHeld : w21.cell? ⟨gb571, 0, none⟩ = some (.int .i64 a0_0) ∧ w21.cell? ⟨gb571, 1, none⟩ = some (.int .i64 a0_1) ∧ w21.cell? ⟨gb571, 2, none⟩ = some (.bool a0_2) ∧ w21.cell? ⟨gb572, 0, none⟩ = some (.int .i64 a1_0) ∧ w21.cell? ⟨gb572, 1, none⟩ = some (.int .i64 a1_1) ∧ w21.cell? ⟨gb572, 2, none⟩ = some (.bool a1_2) ∧ w21.cell? ⟨gb573, 0, none⟩ = some (.int .i64 a2_0) ∧ w21.cell? ⟨gb573, 1, none⟩ = some (.int .i64 a2_1) ∧ w21.cell? ⟨gb573, 2, none⟩ = some (.bool a2_2) := hS_
       refine norm_ (a' := ?_) ?_ ?_
       rotate_left
       ·simp only [putAll, Act.put, List.setIfInBounds_toArray, List.set_cons_zero, List.set_cons_succ]
        rfl
       refine one_ (i := 5) (N := some 14) #[true, true, true, true, true, true, false, true, false] rfl rfl (one_of HT_.out (by kernel_rfl)) (by decide) (fun K hK => ?_)
       refine goes_ Try.func24 (by kernel_rfl) rfl #[.agg #[.int .i64 a2_0, .int .i64 a2_1, .bool a2_2]] (by rfl) rfl rfl (by (try simp only [List.map_toArray, List.map_cons, List.map_nil]); first | done | rfl | (simp only [List.length_drop, List.length_take]; rfl)) ?_
       with_reducible refine (laws_toPoint.calls a2_0 a2_1 a2_2 t580 t581 t582 _ A6.out).mono ?_
       rintro e w22 ⟨rfl, hb⟩
       refine ⟨_, rfl, ?_⟩
       replace BK571 := bB BK571 hb
       replace BK572 := bB BK572 hb
       replace BK573 := bB BK573 hb
       replace BK585 := bB BK585 hb
       replace HB := bS HB hb
       (try clear hb)
       (try clear hb2)
       (try clear hk)
       (try clear hi)
       refine hK.out _ _ ⟨bc BK571 0, bc BK571 1, bc BK571 2, bc BK572 0, bc BK572 1, bc BK572 2, bc BK573 0, bc BK573 1, bc BK573 2⟩ (fun hHeld => ?_)
       clear hK K
       refine norm_ (a' := ?_) ?_ ?_
       rotate_left
       ·show Act.put _ (some 14) _ = _
        simp only [Act.put, List.setIfInBounds_toArray, List.set_cons_zero, List.set_cons_succ, i64_w, i32_w]
        rfl
       exact norm_ (by first | (simp only [putAll, Act.put, List.setIfInBounds_toArray, List.set_cons_zero, List.set_cons_succ]; done) | (simp only [putAll, Act.put, List.setIfInBounds_toArray, List.set_cons_zero, List.set_cons_succ]; rfl)) (hJ1_3_5_7 (gb585) _ ⟨hHeld, (bP BK571), (bP BK572), (bP BK573), (bP BK585), GW585.out, GE585.out, NB571_585.out, NB585_571.out, NB572_585.out, NB585_572.out, NB573_585.out, NB585_573.out, (bZ HB)⟩)
     ·skip
      rintro _ w21 ⟨hS_, h0_, h1_, h2_, h3_⟩
      replace BK571 : Aside0 (w21.heap[gb571]? = some (.cells #[.int .i64 a0_0, .int .i64 a0_1, .bool a0_2] 37 (0, 0))) := ⟨h0_⟩
      replace BK572 : Aside0 (w21.heap[gb572]? = some (.cells #[.int .i64 a1_0, .int .i64 a1_1, .bool a1_2] 37 (0, 0))) := ⟨h1_⟩
      replace BK573 : Aside0 (w21.heap[gb573]? = some (.cells #[.int .i64 a2_0, .int .i64 a2_1, .bool a2_2] 37 (0, 0))) := ⟨h2_⟩
      replace HB : Aside0 (Below w.heap.size w w21) := ⟨h3_⟩
      clear h0_ h1_ h2_ h3_
      have hHeld : w21.cell? ⟨gb571, 0, none⟩ = some (.int .i64 a0_0) ∧ w21.cell? ⟨gb571, 1, none⟩ = some (.int .i64 a0_1) ∧ w21.cell? ⟨gb571, 2, none⟩ = some (.bool a0_2) ∧ w21.cell? ⟨gb572, 0, none⟩ = some (.int .i64 a1_0) ∧ w21.cell? ⟨gb572, 1, none⟩ = some (.int .i64 a1_1) ∧ w21.cell? ⟨gb572, 2, none⟩ = some (.bool a1_2) ∧ w21.cell? ⟨gb573, 0, none⟩ = some (.int .i64 a2_0) ∧ w21.cell? ⟨gb573, 1, none⟩ = some (.int .i64 a2_1) ∧ w21.cell? ⟨gb573, 2, none⟩ = some (.bool a2_2) := hS_
      refine norm_ (a' := ?_) ?_ ?_
      rotate_left
      ·simp only [putAll, Act.put, List.setIfInBounds_toArray, List.set_cons_zero, List.set_cons_succ]
       rfl
      refine two_ (i := 6) (j := 7) (Ni := some 15) (Nj := some 7) #[true, true, true, true, true, true, true, false, false] #[true, true, true, true, true, true, false, true, false] rfl rfl rfl rfl (two_of HT_.out (by kernel_rfl)) (by decide) (by decide) (fun K hK => ?_) (fun K hK => ?_)
      ·skip
       refine goes_ Try.func23 (by kernel_rfl) rfl #[.agg #[.int .i64 t574, .int .i64 t575, .bool t576], .agg #[.int .i64 t577, .int .i64 t578, .bool t579], .agg #[.int .i64 t580, .int .i64 t581, .bool t582]] (by rfl) rfl rfl (by (try simp only [List.map_toArray, List.map_cons, List.map_nil]); first | done | rfl | (simp only [List.length_drop, List.length_take]; rfl)) ?_
       with_reducible refine (spec_PairLine.calls k t574 t575 t576 t577 t578 t579 t580 t581 t582 t583 t584 _ A7.out).mono ?_
       rintro e w22 ⟨rfl, hb⟩
       refine ⟨_, rfl, ?_⟩
       replace BK571 := bB BK571 hb
       replace BK572 := bB BK572 hb
       replace BK573 := bB BK573 hb
       replace HB := bS HB hb
       (try clear hb)
       (try clear hb2)
       (try clear hk)
       (try clear hi)
       refine hK.out _ _ ⟨bc BK571 0, bc BK571 1, bc BK571 2, bc BK572 0, bc BK572 1, bc BK572 2, bc BK573 0, bc BK573 1, bc BK573 2⟩ (fun hHeld => ?_)
       clear hK K
       refine norm_ (a' := ?_) ?_ ?_
       rotate_left
       ·show Act.put _ (some 15) _ = _
        simp only [Act.put, List.setIfInBounds_toArray, List.set_cons_zero, List.set_cons_succ, i64_w, i32_w]
        rfl
       exact norm_ (by first | (simp only [putAll, Act.put, List.setIfInBounds_toArray, List.set_cons_zero, List.set_cons_succ]; done) | (simp only [putAll, Act.put, List.setIfInBounds_toArray, List.set_cons_zero, List.set_cons_succ]; rfl)) (hJ1_3_5_6 () _ ⟨hHeld, (bP BK571), (bP BK572), (bP BK573), (bZ HB)⟩)
      ·skip
       refine box_step ?hg (N := 7) ?hd (cs := #[.int .i64 0, .int .i64 0]) (t := 31) ?hr ?_; (case hd => rfl); (case hg => rfl); (case hr => first | (go_simp; done) | (go_simp; rfl))
       intro gb585 hg w22 hbox hb
       have BK585 := Aside0.mk (hbox)
       have GW585 := bG HB hg
       have GE585 := bG HB hg
       replace HB := bS HB hb
       have NB571_585 := bL BK571 hg
       have NB585_571 := bR BK571 hg
       replace BK571 := bB BK571 hb
       have NB572_585 := bL BK572 hg
       have NB585_572 := bR BK572 hg
       replace BK572 := bB BK572 hb
       have NB573_585 := bL BK573 hg
       have NB585_573 := bR BK573 hg
       replace BK573 := bB BK573 hb
       clear hb hbox hg
       refine hK.out _ _ ⟨bc BK571 0, bc BK571 1, bc BK571 2, bc BK572 0, bc BK572 1, bc BK572 2, bc BK573 0, bc BK573 1, bc BK573 2⟩ (fun hHeld => ?_)
       clear hK K
       refine norm_ (a' := ?_) ?_ ?_
       rotate_left
       ·show Act.put _ (some 7) _ = _
        simp only [Act.put, List.setIfInBounds_toArray, List.set_cons_zero, List.set_cons_succ, i64_w, i32_w]
        rfl
       exact norm_ (by first | (simp only [putAll, Act.put, List.setIfInBounds_toArray, List.set_cons_zero, List.set_cons_succ]; done) | (simp only [putAll, Act.put, List.setIfInBounds_toArray, List.set_cons_zero, List.set_cons_succ]; rfl)) (hJ1_3_5_7 (gb585) _ ⟨hHeld, (bP BK571), (bP BK572), (bP BK573), (bP BK585), GW585.out, GE585.out, NB571_585.out, NB585_571.out, NB572_585.out, NB585_572.out, NB573_585.out, NB585_573.out, (bZ HB)⟩)
    ·skip
     rintro gb585 w22 ⟨hS_, h0_, h1_, h2_, h3_, h4_, h5_, h6_, h7_, h8_, h9_, h10_, h11_, h12_⟩
     replace BK571 : Aside0 (w22.heap[gb571]? = some (.cells #[.int .i64 a0_0, .int .i64 a0_1, .bool a0_2] 37 (0, 0))) := ⟨h0_⟩
     replace BK572 : Aside0 (w22.heap[gb572]? = some (.cells #[.int .i64 a1_0, .int .i64 a1_1, .bool a1_2] 37 (0, 0))) := ⟨h1_⟩
     replace BK573 : Aside0 (w22.heap[gb573]? = some (.cells #[.int .i64 a2_0, .int .i64 a2_1, .bool a2_2] 37 (0, 0))) := ⟨h2_⟩
     have BK585 : Aside0 (w22.heap[gb585]? = some (.cells #[.int .i64 0, .int .i64 0] 31 (0, 0))) := ⟨h3_⟩
     have GW585 : Aside0 (w.heap.size ≤ gb585) := ⟨h4_⟩
     have GE585 : Aside0 (w.heap.size ≤ gb585) := ⟨h5_⟩
     have NB571_585 : Aside0 (gb571 ≠ gb585) := ⟨h6_⟩
     have NB585_571 : Aside0 (gb585 ≠ gb571) := ⟨h7_⟩
     have NB572_585 : Aside0 (gb572 ≠ gb585) := ⟨h8_⟩
     have NB585_572 : Aside0 (gb585 ≠ gb572) := ⟨h9_⟩
     have NB573_585 : Aside0 (gb573 ≠ gb585) := ⟨h10_⟩
     have NB585_573 : Aside0 (gb585 ≠ gb573) := ⟨h11_⟩
     replace HB : Aside0 (Below w.heap.size w w22) := ⟨h12_⟩
     clear h0_ h1_ h2_ h3_ h4_ h5_ h6_ h7_ h8_ h9_ h10_ h11_ h12_
     have hHeld : w22.cell? ⟨gb571, 0, none⟩ = some (.int .i64 a0_0) ∧ w22.cell? ⟨gb571, 1, none⟩ = some (.int .i64 a0_1) ∧ w22.cell? ⟨gb571, 2, none⟩ = some (.bool a0_2) ∧ w22.cell? ⟨gb572, 0, none⟩ = some (.int .i64 a1_0) ∧ w22.cell? ⟨gb572, 1, none⟩ = some (.int .i64 a1_1) ∧ w22.cell? ⟨gb572, 2, none⟩ = some (.bool a1_2) ∧ w22.cell? ⟨gb573, 0, none⟩ = some (.int .i64 a2_0) ∧ w22.cell? ⟨gb573, 1, none⟩ = some (.int .i64 a2_1) ∧ w22.cell? ⟨gb573, 2, none⟩ = some (.bool a2_2) := hS_
     refine norm_ (a' := ?_) ?_ ?_
     rotate_left
     ·simp only [putAll, Act.put, List.setIfInBounds_toArray, List.set_cons_zero, List.set_cons_succ]
      rfl
     refine one_ (i := 6) (N := some 15) #[true, true, true, true, true, true, true, true, false] rfl rfl (one_of HT_.out (by kernel_rfl)) (by decide) (fun K hK => ?_)
     refine goes_ Try.func23 (by kernel_rfl) rfl #[.agg #[.int .i64 t574, .int .i64 t575, .bool t576], .agg #[.int .i64 t577, .int .i64 t578, .bool t579], .agg #[.int .i64 t580, .int .i64 t581, .bool t582]] (by rfl) rfl rfl (by (try simp only [List.map_toArray, List.map_cons, List.map_nil]); first | done | rfl | (simp only [List.length_drop, List.length_take]; rfl)) ?_
     with_reducible refine (spec_PairLine.calls k t574 t575 t576 t577 t578 t579 t580 t581 t582 t583 t584 _ A7.out).mono ?_
     rintro e w23 ⟨rfl, hb⟩
     refine ⟨_, rfl, ?_⟩
     replace BK571 := bB BK571 hb
     replace BK572 := bB BK572 hb
     replace BK573 := bB BK573 hb
     replace BK585 := bB BK585 hb
     replace HB := bS HB hb
     (try clear hb)
     (try clear hb2)
     (try clear hk)
     (try clear hi)
     refine hK.out _ _ ⟨bc BK571 0, bc BK571 1, bc BK571 2, bc BK572 0, bc BK572 1, bc BK572 2, bc BK573 0, bc BK573 1, bc BK573 2⟩ (fun hHeld => ?_)
     clear hK K
     refine norm_ (a' := ?_) ?_ ?_
     rotate_left
     ·show Act.put _ (some 15) _ = _
      simp only [Act.put, List.setIfInBounds_toArray, List.set_cons_zero, List.set_cons_succ, i64_w, i32_w]
      rfl
     exact norm_ (by first | (simp only [putAll, Act.put, List.setIfInBounds_toArray, List.set_cons_zero, List.set_cons_succ]; done) | (simp only [putAll, Act.put, List.setIfInBounds_toArray, List.set_cons_zero, List.set_cons_succ]; rfl)) (hJ1_3_5_6_7 (gb585) _ ⟨hHeld, (bP BK571), (bP BK572), (bP BK573), (bP BK585), GW585.out, GE585.out, NB571_585.out, NB585_571.out, NB572_585.out, NB585_572.out, NB573_585.out, NB585_573.out, (bZ HB)⟩)
   ·skip
    rintro _ w22 ⟨hS_, h0_, h1_, h2_, h3_⟩
    replace BK571 : Aside0 (w22.heap[gb571]? = some (.cells #[.int .i64 a0_0, .int .i64 a0_1, .bool a0_2] 37 (0, 0))) := ⟨h0_⟩
    replace BK572 : Aside0 (w22.heap[gb572]? = some (.cells #[.int .i64 a1_0, .int .i64 a1_1, .bool a1_2] 37 (0, 0))) := ⟨h1_⟩
    replace BK573 : Aside0 (w22.heap[gb573]? = some (.cells #[.int .i64 a2_0, .int .i64 a2_1, .bool a2_2] 37 (0, 0))) := ⟨h2_⟩
    replace HB : Aside0 (Below w.heap.size w w22) := ⟨h3_⟩
    clear h0_ h1_ h2_ h3_
    have hHeld : w22.cell? ⟨gb571, 0, none⟩ = some (.int .i64 a0_0) ∧ w22.cell? ⟨gb571, 1, none⟩ = some (.int .i64 a0_1) ∧ w22.cell? ⟨gb571, 2, none⟩ = some (.bool a0_2) ∧ w22.cell? ⟨gb572, 0, none⟩ = some (.int .i64 a1_0) ∧ w22.cell? ⟨gb572, 1, none⟩ = some (.int .i64 a1_1) ∧ w22.cell? ⟨gb572, 2, none⟩ = some (.bool a1_2) ∧ w22.cell? ⟨gb573, 0, none⟩ = some (.int .i64 a2_0) ∧ w22.cell? ⟨gb573, 1, none⟩ = some (.int .i64 a2_1) ∧ w22.cell? ⟨gb573, 2, none⟩ = some (.bool a2_2) := hS_
    refine norm_ (a' := ?_) ?_ ?_
    rotate_left
    ·simp only [putAll, Act.put, List.setIfInBounds_toArray, List.set_cons_zero, List.set_cons_succ]
     rfl
    refine one_ (i := 7) (N := some 7) #[true, true, true, true, true, true, true, true, false] rfl rfl (one_of HT_.out (by kernel_rfl)) (by decide) (fun K hK => ?_)
    refine box_step ?hg (N := 7) ?hd (cs := #[.int .i64 0, .int .i64 0]) (t := 31) ?hr ?_; (case hd => rfl); (case hg => rfl); (case hr => first | (go_simp; done) | (go_simp; rfl))
    intro gb585 hg w23 hbox hb
    have BK585 := Aside0.mk (hbox)
    have GW585 := bG HB hg
    have GE585 := bG HB hg
    replace HB := bS HB hb
    have NB571_585 := bL BK571 hg
    have NB585_571 := bR BK571 hg
    replace BK571 := bB BK571 hb
    have NB572_585 := bL BK572 hg
    have NB585_572 := bR BK572 hg
    replace BK572 := bB BK572 hb
    have NB573_585 := bL BK573 hg
    have NB585_573 := bR BK573 hg
    replace BK573 := bB BK573 hb
    clear hb hbox hg
    refine hK.out _ _ ⟨bc BK571 0, bc BK571 1, bc BK571 2, bc BK572 0, bc BK572 1, bc BK572 2, bc BK573 0, bc BK573 1, bc BK573 2⟩ (fun hHeld => ?_)
    clear hK K
    refine norm_ (a' := ?_) ?_ ?_
    rotate_left
    ·show Act.put _ (some 7) _ = _
     simp only [Act.put, List.setIfInBounds_toArray, List.set_cons_zero, List.set_cons_succ, i64_w, i32_w]
     rfl
    exact norm_ (by first | (simp only [putAll, Act.put, List.setIfInBounds_toArray, List.set_cons_zero, List.set_cons_succ]; done) | (simp only [putAll, Act.put, List.setIfInBounds_toArray, List.set_cons_zero, List.set_cons_succ]; rfl)) (hJ1_3_5_6_7 (gb585) _ ⟨hHeld, (bP BK571), (bP BK572), (bP BK573), (bP BK585), GW585.out, GE585.out, NB571_585.out, NB585_571.out, NB572_585.out, NB585_572.out, NB573_585.out, NB585_573.out, (bZ HB)⟩)
  rintro gb585 w23 ⟨hS_, h0_, h1_, h2_, h3_, h4_, h5_, h6_, h7_, h8_, h9_, h10_, h11_, h12_⟩
  replace BK571 : Aside0 (w23.heap[gb571]? = some (.cells #[.int .i64 a0_0, .int .i64 a0_1, .bool a0_2] 37 (0, 0))) := ⟨h0_⟩
  replace BK572 : Aside0 (w23.heap[gb572]? = some (.cells #[.int .i64 a1_0, .int .i64 a1_1, .bool a1_2] 37 (0, 0))) := ⟨h1_⟩
  replace BK573 : Aside0 (w23.heap[gb573]? = some (.cells #[.int .i64 a2_0, .int .i64 a2_1, .bool a2_2] 37 (0, 0))) := ⟨h2_⟩
  have BK585 : Aside0 (w23.heap[gb585]? = some (.cells #[.int .i64 0, .int .i64 0] 31 (0, 0))) := ⟨h3_⟩
  have GW585 : Aside0 (w.heap.size ≤ gb585) := ⟨h4_⟩
  have GE585 : Aside0 (w.heap.size ≤ gb585) := ⟨h5_⟩
  have NB571_585 : Aside0 (gb571 ≠ gb585) := ⟨h6_⟩
  have NB585_571 : Aside0 (gb585 ≠ gb571) := ⟨h7_⟩
  have NB572_585 : Aside0 (gb572 ≠ gb585) := ⟨h8_⟩
  have NB585_572 : Aside0 (gb585 ≠ gb572) := ⟨h9_⟩
  have NB573_585 : Aside0 (gb573 ≠ gb585) := ⟨h10_⟩
  have NB585_573 : Aside0 (gb585 ≠ gb573) := ⟨h11_⟩
  replace HB : Aside0 (Below w.heap.size w w23) := ⟨h12_⟩
  clear h0_ h1_ h2_ h3_ h4_ h5_ h6_ h7_ h8_ h9_ h10_ h11_ h12_
  have hHeld : w23.cell? ⟨gb571, 0, none⟩ = some (.int .i64 a0_0) ∧ w23.cell? ⟨gb571, 1, none⟩ = some (.int .i64 a0_1) ∧ w23.cell? ⟨gb571, 2, none⟩ = some (.bool a0_2) ∧ w23.cell? ⟨gb572, 0, none⟩ = some (.int .i64 a1_0) ∧ w23.cell? ⟨gb572, 1, none⟩ = some (.int .i64 a1_1) ∧ w23.cell? ⟨gb572, 2, none⟩ = some (.bool a1_2) ∧ w23.cell? ⟨gb573, 0, none⟩ = some (.int .i64 a2_0) ∧ w23.cell? ⟨gb573, 1, none⟩ = some (.int .i64 a2_1) ∧ w23.cell? ⟨gb573, 2, none⟩ = some (.bool a2_2) := hS_
  refine norm_ (a' := ?_) ?_ ?_
  rotate_left
  ·simp only [putAll, Act.put, List.setIfInBounds_toArray, List.set_cons_zero, List.set_cons_succ]
   rfl
  refine one_ (i := 8) (N := none) #[true, true, true, true, true, true, true, true, true] rfl rfl (one_of HT_.out (by kernel_rfl)) (by decide) (fun K hK => ?_)
  have hs24 : w23.cell? ⟨gb585, 0, none⟩ = some (.int .i64 0) := bc BK585 0
  have hfs24 := blk_frozen BK585.out 0
  have hns24_0 := NB571_585.out
  have hns24_1 := NB572_585.out
  have hns24_2 := NB573_585.out
  have hms24_0 := NB585_571.out
  have hms24_1 := NB585_572.out
  have hms24_2 := NB585_573.out
  have hs25 : w23.cell? ⟨gb585, 1, none⟩ = some (.int .i64 0) := bc BK585 1
  have hfs25 := blk_frozen BK585.out 1
  have hns25_0 := NB571_585.out
  have hns25_1 := NB572_585.out
  have hns25_2 := NB573_585.out
  have hms25_0 := NB585_571.out
  have hms25_1 := NB585_572.out
  have hms25_2 := NB585_573.out
  refine skip_ (w1 := ?_) (by rfl) rfl ?_ ?_
  rotate_left
  ·go_simp
   rfl
  refine hK.out _ _ ⟨((cell_far (p := ⟨gb585, _, none⟩) NB571_585.out _).trans (((cell_far (p := ⟨gb585, _, none⟩) NB571_585.out _).trans (hHeld.1)))), ((cell_far (p := ⟨gb585, _, none⟩) NB571_585.out _).trans (((cell_far (p := ⟨gb585, _, none⟩) NB571_585.out _).trans (hHeld.2.1)))), ((cell_far (p := ⟨gb585, _, none⟩) NB571_585.out _).trans (((cell_far (p := ⟨gb585, _, none⟩) NB571_585.out _).trans (hHeld.2.2.1)))), ((cell_far (p := ⟨gb585, _, none⟩) NB572_585.out _).trans (((cell_far (p := ⟨gb585, _, none⟩) NB572_585.out _).trans (hHeld.2.2.2.1)))), ((cell_far (p := ⟨gb585, _, none⟩) NB572_585.out _).trans (((cell_far (p := ⟨gb585, _, none⟩) NB572_585.out _).trans (hHeld.2.2.2.2.1)))), ((cell_far (p := ⟨gb585, _, none⟩) NB572_585.out _).trans (((cell_far (p := ⟨gb585, _, none⟩) NB572_585.out _).trans (hHeld.2.2.2.2.2.1)))), ((cell_far (p := ⟨gb585, _, none⟩) NB573_585.out _).trans (((cell_far (p := ⟨gb585, _, none⟩) NB573_585.out _).trans (hHeld.2.2.2.2.2.2.1)))), ((cell_far (p := ⟨gb585, _, none⟩) NB573_585.out _).trans (((cell_far (p := ⟨gb585, _, none⟩) NB573_585.out _).trans (hHeld.2.2.2.2.2.2.2.1)))), ((cell_far (p := ⟨gb585, _, none⟩) NB573_585.out _).trans (((cell_far (p := ⟨gb585, _, none⟩) NB573_585.out _).trans (hHeld.2.2.2.2.2.2.2.2))))⟩ (fun hHeld => ?_)
  clear hK K
  refine done_ (done_of HT_.out (by kernel_rfl)) ?_
  try go_wp2
  have n0_ : Aside0 (((w23.setCell ⟨gb585, 0, none⟩ (.int .i64 t583)).setCell ⟨gb585, 1, none⟩ (.int .i64 t584)).heap[gb571]? = some (.cells #[.int .i64 a0_0, .int .i64 a0_1, .bool a0_2] 37 (0, 0))) := ⟨bP BK571⟩
  have n1_ : Aside0 (((w23.setCell ⟨gb585, 0, none⟩ (.int .i64 t583)).setCell ⟨gb585, 1, none⟩ (.int .i64 t584)).heap[gb572]? = some (.cells #[.int .i64 a1_0, .int .i64 a1_1, .bool a1_2] 37 (0, 0))) := ⟨bP BK572⟩
  have n2_ : Aside0 (((w23.setCell ⟨gb585, 0, none⟩ (.int .i64 t583)).setCell ⟨gb585, 1, none⟩ (.int .i64 t584)).heap[gb573]? = some (.cells #[.int .i64 a2_0, .int .i64 a2_1, .bool a2_2] 37 (0, 0))) := ⟨bP BK573⟩
  have n3_ : Aside0 (((w23.setCell ⟨gb585, 0, none⟩ (.int .i64 t583)).setCell ⟨gb585, 1, none⟩ (.int .i64 t584)).heap[gb585]? = some (.cells #[.int .i64 t583, .int .i64 t584] 31 (0, 0))) := ⟨by (with_reducible repeat (first | refine blk_drewN ?_ _ | refine blk_drew ?_ | refine blk_alloc ?_ _)); refine blk_put (cs := #[.int .i64 t583, .int .i64 0]) ?_ 1 _ rfl; (with_reducible repeat (first | refine blk_drewN ?_ _ | refine blk_drew ?_ | refine blk_alloc ?_ _)); refine blk_put (cs := #[.int .i64 0, .int .i64 0]) ?_ 0 _ rfl; (with_reducible repeat (first | refine blk_drewN ?_ _ | refine blk_drew ?_ | refine blk_alloc ?_ _)); exact BK585.out⟩
  have n4_ : Aside0 (Below w.heap.size w ((w23.setCell ⟨gb585, 0, none⟩ (.int .i64 t583)).setCell ⟨gb585, 1, none⟩ (.int .i64 t584))) := ⟨bZ HB⟩
  (try clear BK571)
  (try clear BK572)
  (try clear BK573)
  (try clear BK585)
  (try clear HB)
  generalize ((w23.setCell ⟨gb585, 0, none⟩ (.int .i64 t583)).setCell ⟨gb585, 1, none⟩ (.int .i64 t584)) = w26 at n0_ n1_ n2_ n3_ n4_ ⊢
  have BK571 := n0_
  have BK572 := n1_
  have BK573 := n2_
  have BK585 := n3_
  have HB := n4_
  clear n0_ n1_ n2_ n3_ n4_
  replace BK571 := Aside0.mk (blk_drew BK571.out)
  replace BK572 := Aside0.mk (blk_drew BK572.out)
  replace BK573 := Aside0.mk (blk_drew BK573.out)
  replace BK585 := Aside0.mk (blk_drew BK585.out)
  replace HB := Aside0.mk (below_drew1 HB.out)
  refine start_ (n := 9) (S := fun w' => w'.cell? ⟨gb571, 0, none⟩ = some (.int .i64 a0_0) ∧ w'.cell? ⟨gb571, 1, none⟩ = some (.int .i64 a0_1) ∧ w'.cell? ⟨gb571, 2, none⟩ = some (.bool a0_2) ∧ w'.cell? ⟨gb572, 0, none⟩ = some (.int .i64 a1_0) ∧ w'.cell? ⟨gb572, 1, none⟩ = some (.int .i64 a1_1) ∧ w'.cell? ⟨gb572, 2, none⟩ = some (.bool a1_2) ∧ w'.cell? ⟨gb573, 0, none⟩ = some (.int .i64 a2_0) ∧ w'.cell? ⟨gb573, 1, none⟩ = some (.int .i64 a2_1) ∧ w'.cell? ⟨gb573, 2, none⟩ = some (.bool a2_2)) (ds := []) #[false, false, false, false, false, false, false, false, false] (by kernel_rfl) rfl rfl ⟨bc BK571 0, bc BK571 1, bc BK571 2, bc BK572 0, bc BK572 1, bc BK572 2, bc BK573 0, bc BK573 1, bc BK573 2⟩ (fun hHeld => ?_); refine with_tabW laws_FnExactPairLine.tab2 laws_FnExactPairLine.bits2 (fun HT_ HW_ => ?_)
  generalize w26.drew = w27 at BK571 BK572 BK573 BK585 HB hHeld ⊢
  refine take_ (i := 0) (N := some 16) (v := ?_) (a' := ?_) #[true, false, false, false, false, false, false, false, false] rfl rfl (take_ofW HT_.out HW_.out (by kernel_rfl)) (fun _ _ _ h => h) (Or.inl ⟨by rfl, ?_⟩) hHeld ?_ ?_
  rotate_left
  ·rintro w' ⟨s0, s1, s2, s3, s4, s5, s6, s7, s8⟩
   go_simp
   with_reducible rfl
  rotate_left
  ·simp only [Act.put, List.setIfInBounds_toArray, List.set_cons_zero, List.set_cons_succ, i64_w, i32_w]
   rfl
  refine take_ (i := 2) (N := some 18) (v := ?_) (a' := ?_) #[true, false, true, false, false, false, false, false, false] rfl rfl (take_ofW HT_.out HW_.out (by kernel_rfl)) (fun _ _ _ h => h) (Or.inl ⟨by rfl, ?_⟩) hHeld ?_ ?_
  rotate_left
  ·rintro w' ⟨s0, s1, s2, s3, s4, s5, s6, s7, s8⟩
   go_simp
   with_reducible rfl
  rotate_left
  ·simp only [Act.put, List.setIfInBounds_toArray, List.set_cons_zero, List.set_cons_succ, i64_w, i32_w]
   rfl
  refine take_ (i := 4) (N := some 20) (v := ?_) (a' := ?_) #[true, false, true, false, true, false, false, false, false] rfl rfl (take_ofW HT_.out HW_.out (by kernel_rfl)) (fun _ _ _ h => h) (Or.inl ⟨by rfl, ?_⟩) hHeld ?_ ?_
  rotate_left
  ·rintro w' ⟨s0, s1, s2, s3, s4, s5, s6, s7, s8⟩
   go_simp
   with_reducible rfl
  rotate_left
  ·simp only [Act.put, List.setIfInBounds_toArray, List.set_cons_zero, List.set_cons_succ, i64_w, i32_w]
   rfl
  refine join_ (σ := Nat) 1 #[true, true, true, true, true, true, true, true, false] (fun s_ => [(17, .agg #[.int .i64 t586, .int .i64 t587, .bool t588]), (19, .agg #[.int .i64 t589, .int .i64 t590, .bool t591]), (21, .agg #[.int .i64 t592, .int .i64 t593, .bool t594]), (22, .agg #[.int .i64 t595, .int .i64 t596]), (8, .pointer (some ⟨s_, 0, none⟩))]) (fun s_ w' => (w'.cell? ⟨gb571, 0, none⟩ = some (.int .i64 a0_0) ∧ w'.cell? ⟨gb571, 1, none⟩ = some (.int .i64 a0_1) ∧ w'.cell? ⟨gb571, 2, none⟩ = some (.bool a0_2) ∧ w'.cell? ⟨gb572, 0, none⟩ = some (.int .i64 a1_0) ∧ w'.cell? ⟨gb572, 1, none⟩ = some (.int .i64 a1_1) ∧ w'.cell? ⟨gb572, 2, none⟩ = some (.bool a1_2) ∧ w'.cell? ⟨gb573, 0, none⟩ = some (.int .i64 a2_0) ∧ w'.cell? ⟨gb573, 1, none⟩ = some (.int .i64 a2_1) ∧ w'.cell? ⟨gb573, 2, none⟩ = some (.bool a2_2)) ∧ (w'.heap[gb571]? = some (.cells #[.int .i64 a0_0, .int .i64 a0_1, .bool a0_2] 37 (0, 0))) ∧ (w'.heap[gb572]? = some (.cells #[.int .i64 a1_0, .int .i64 a1_1, .bool a1_2] 37 (0, 0))) ∧ (w'.heap[gb573]? = some (.cells #[.int .i64 a2_0, .int .i64 a2_1, .bool a2_2] 37 (0, 0))) ∧ (w'.heap[gb585]? = some (.cells #[.int .i64 t583, .int .i64 t584] 31 (0, 0))) ∧ (w'.heap[s_]? = some (.cells #[.int .i64 0, .int .i64 0] 31 (0, 0))) ∧ (w.heap.size ≤ s_) ∧ (w.heap.size ≤ s_) ∧ (gb571 ≠ s_) ∧ (s_ ≠ gb571) ∧ (gb572 ≠ s_) ∧ (s_ ≠ gb572) ∧ (gb573 ≠ s_) ∧ (s_ ≠ gb573) ∧ (gb585 ≠ s_) ∧ (s_ ≠ gb585) ∧ (Below w.heap.size w w')) ?_ ?_
  rotate_left
  ·intro hJ1_3_5_6_7
   refine join_ (σ := Unit) 2 #[true, true, true, true, true, true, true, false, false] (fun s_ => [(17, .agg #[.int .i64 t586, .int .i64 t587, .bool t588]), (19, .agg #[.int .i64 t589, .int .i64 t590, .bool t591]), (21, .agg #[.int .i64 t592, .int .i64 t593, .bool t594]), (22, .agg #[.int .i64 t595, .int .i64 t596])]) (fun s_ w' => (w'.cell? ⟨gb571, 0, none⟩ = some (.int .i64 a0_0) ∧ w'.cell? ⟨gb571, 1, none⟩ = some (.int .i64 a0_1) ∧ w'.cell? ⟨gb571, 2, none⟩ = some (.bool a0_2) ∧ w'.cell? ⟨gb572, 0, none⟩ = some (.int .i64 a1_0) ∧ w'.cell? ⟨gb572, 1, none⟩ = some (.int .i64 a1_1) ∧ w'.cell? ⟨gb572, 2, none⟩ = some (.bool a1_2) ∧ w'.cell? ⟨gb573, 0, none⟩ = some (.int .i64 a2_0) ∧ w'.cell? ⟨gb573, 1, none⟩ = some (.int .i64 a2_1) ∧ w'.cell? ⟨gb573, 2, none⟩ = some (.bool a2_2)) ∧ (w'.heap[gb571]? = some (.cells #[.int .i64 a0_0, .int .i64 a0_1, .bool a0_2] 37 (0, 0))) ∧ (w'.heap[gb572]? = some (.cells #[.int .i64 a1_0, .int .i64 a1_1, .bool a1_2] 37 (0, 0))) ∧ (w'.heap[gb573]? = some (.cells #[.int .i64 a2_0, .int .i64 a2_1, .bool a2_2] 37 (0, 0))) ∧ (w'.heap[gb585]? = some (.cells #[.int .i64 t583, .int .i64 t584] 31 (0, 0))) ∧ (Below w.heap.size w w')) ?_ ?_
   rotate_left
   ·intro hJ1_3_5_6
    refine join_ (σ := Nat) 2 #[true, true, true, true, true, true, false, true, false] (fun s_ => [(17, .agg #[.int .i64 t586, .int .i64 t587, .bool t588]), (19, .agg #[.int .i64 t589, .int .i64 t590, .bool t591]), (21, .agg #[.int .i64 t592, .int .i64 t593, .bool t594]), (8, .pointer (some ⟨s_, 0, none⟩))]) (fun s_ w' => (w'.cell? ⟨gb571, 0, none⟩ = some (.int .i64 a0_0) ∧ w'.cell? ⟨gb571, 1, none⟩ = some (.int .i64 a0_1) ∧ w'.cell? ⟨gb571, 2, none⟩ = some (.bool a0_2) ∧ w'.cell? ⟨gb572, 0, none⟩ = some (.int .i64 a1_0) ∧ w'.cell? ⟨gb572, 1, none⟩ = some (.int .i64 a1_1) ∧ w'.cell? ⟨gb572, 2, none⟩ = some (.bool a1_2) ∧ w'.cell? ⟨gb573, 0, none⟩ = some (.int .i64 a2_0) ∧ w'.cell? ⟨gb573, 1, none⟩ = some (.int .i64 a2_1) ∧ w'.cell? ⟨gb573, 2, none⟩ = some (.bool a2_2)) ∧ (w'.heap[gb571]? = some (.cells #[.int .i64 a0_0, .int .i64 a0_1, .bool a0_2] 37 (0, 0))) ∧ (w'.heap[gb572]? = some (.cells #[.int .i64 a1_0, .int .i64 a1_1, .bool a1_2] 37 (0, 0))) ∧ (w'.heap[gb573]? = some (.cells #[.int .i64 a2_0, .int .i64 a2_1, .bool a2_2] 37 (0, 0))) ∧ (w'.heap[gb585]? = some (.cells #[.int .i64 t583, .int .i64 t584] 31 (0, 0))) ∧ (w'.heap[s_]? = some (.cells #[.int .i64 0, .int .i64 0] 31 (0, 0))) ∧ (w.heap.size ≤ s_) ∧ (w.heap.size ≤ s_) ∧ (gb571 ≠ s_) ∧ (s_ ≠ gb571) ∧ (gb572 ≠ s_) ∧ (s_ ≠ gb572) ∧ (gb573 ≠ s_) ∧ (s_ ≠ gb573) ∧ (gb585 ≠ s_) ∧ (s_ ≠ gb585) ∧ (Below w.heap.size w w')) ?_ ?_
    rotate_left
    ·intro hJ1_3_5_7
     refine join_ (σ := Unit) 3 #[true, true, true, true, true, true, false, false, false] (fun s_ => [(17, .agg #[.int .i64 t586, .int .i64 t587, .bool t588]), (19, .agg #[.int .i64 t589, .int .i64 t590, .bool t591]), (21, .agg #[.int .i64 t592, .int .i64 t593, .bool t594])]) (fun s_ w' => (w'.cell? ⟨gb571, 0, none⟩ = some (.int .i64 a0_0) ∧ w'.cell? ⟨gb571, 1, none⟩ = some (.int .i64 a0_1) ∧ w'.cell? ⟨gb571, 2, none⟩ = some (.bool a0_2) ∧ w'.cell? ⟨gb572, 0, none⟩ = some (.int .i64 a1_0) ∧ w'.cell? ⟨gb572, 1, none⟩ = some (.int .i64 a1_1) ∧ w'.cell? ⟨gb572, 2, none⟩ = some (.bool a1_2) ∧ w'.cell? ⟨gb573, 0, none⟩ = some (.int .i64 a2_0) ∧ w'.cell? ⟨gb573, 1, none⟩ = some (.int .i64 a2_1) ∧ w'.cell? ⟨gb573, 2, none⟩ = some (.bool a2_2)) ∧ (w'.heap[gb571]? = some (.cells #[.int .i64 a0_0, .int .i64 a0_1, .bool a0_2] 37 (0, 0))) ∧ (w'.heap[gb572]? = some (.cells #[.int .i64 a1_0, .int .i64 a1_1, .bool a1_2] 37 (0, 0))) ∧ (w'.heap[gb573]? = some (.cells #[.int .i64 a2_0, .int .i64 a2_1, .bool a2_2] 37 (0, 0))) ∧ (w'.heap[gb585]? = some (.cells #[.int .i64 t583, .int .i64 t584] 31 (0, 0))) ∧ (Below w.heap.size w w')) ?_ ?_
     rotate_left
     ·intro hJ1_3_5
      refine join_ (σ := Nat) 3 #[true, true, true, true, true, false, false, true, false] (fun s_ => [(17, .agg #[.int .i64 t586, .int .i64 t587, .bool t588]), (19, .agg #[.int .i64 t589, .int .i64 t590, .bool t591]), (8, .pointer (some ⟨s_, 0, none⟩))]) (fun s_ w' => (w'.cell? ⟨gb571, 0, none⟩ = some (.int .i64 a0_0) ∧ w'.cell? ⟨gb571, 1, none⟩ = some (.int .i64 a0_1) ∧ w'.cell? ⟨gb571, 2, none⟩ = some (.bool a0_2) ∧ w'.cell? ⟨gb572, 0, none⟩ = some (.int .i64 a1_0) ∧ w'.cell? ⟨gb572, 1, none⟩ = some (.int .i64 a1_1) ∧ w'.cell? ⟨gb572, 2, none⟩ = some (.bool a1_2) ∧ w'.cell? ⟨gb573, 0, none⟩ = some (.int .i64 a2_0) ∧ w'.cell? ⟨gb573, 1, none⟩ = some (.int .i64 a2_1) ∧ w'.cell? ⟨gb573, 2, none⟩ = some (.bool a2_2)) ∧ (w'.heap[gb571]? = some (.cells #[.int .i64 a0_0, .int .i64 a0_1, .bool a0_2] 37 (0, 0))) ∧ (w'.heap[gb572]? = some (.cells #[.int .i64 a1_0, .int .i64 a1_1, .bool a1_2] 37 (0, 0))) ∧ (w'.heap[gb573]? = some (.cells #[.int .i64 a2_0, .int .i64 a2_1, .bool a2_2] 37 (0, 0))) ∧ (w'.heap[gb585]? = some (.cells #[.int .i64 t583, .int .i64 t584] 31 (0, 0))) ∧ (w'.heap[s_]? = some (.cells #[.int .i64 0, .int .i64 0] 31 (0, 0))) ∧ (w.heap.size ≤ s_) ∧ (w.heap.size ≤ s_) ∧ (gb571 ≠ s_) ∧ (s_ ≠ gb571) ∧ (gb572 ≠ s_) ∧ (s_ ≠ gb572) ∧ (gb573 ≠ s_) ∧ (s_ ≠ gb573) ∧ (gb585 ≠ s_) ∧ (s_ ≠ gb585) ∧ (Below w.heap.size w w')) ?_ ?_
      rotate_left
      ·intro hJ1_3_7
       refine join_ (σ := Unit) 4 #[true, true, true, true, true, false, false, false, false] (fun s_ => [(17, .agg #[.int .i64 t586, .int .i64 t587, .bool t588]), (19, .agg #[.int .i64 t589, .int .i64 t590, .bool t591])]) (fun s_ w' => (w'.cell? ⟨gb571, 0, none⟩ = some (.int .i64 a0_0) ∧ w'.cell? ⟨gb571, 1, none⟩ = some (.int .i64 a0_1) ∧ w'.cell? ⟨gb571, 2, none⟩ = some (.bool a0_2) ∧ w'.cell? ⟨gb572, 0, none⟩ = some (.int .i64 a1_0) ∧ w'.cell? ⟨gb572, 1, none⟩ = some (.int .i64 a1_1) ∧ w'.cell? ⟨gb572, 2, none⟩ = some (.bool a1_2) ∧ w'.cell? ⟨gb573, 0, none⟩ = some (.int .i64 a2_0) ∧ w'.cell? ⟨gb573, 1, none⟩ = some (.int .i64 a2_1) ∧ w'.cell? ⟨gb573, 2, none⟩ = some (.bool a2_2)) ∧ (w'.heap[gb571]? = some (.cells #[.int .i64 a0_0, .int .i64 a0_1, .bool a0_2] 37 (0, 0))) ∧ (w'.heap[gb572]? = some (.cells #[.int .i64 a1_0, .int .i64 a1_1, .bool a1_2] 37 (0, 0))) ∧ (w'.heap[gb573]? = some (.cells #[.int .i64 a2_0, .int .i64 a2_1, .bool a2_2] 37 (0, 0))) ∧ (w'.heap[gb585]? = some (.cells #[.int .i64 t583, .int .i64 t584] 31 (0, 0))) ∧ (Below w.heap.size w w')) ?_ ?_
       rotate_left
       ·intro hJ1_3
        refine join_ (σ := Nat) 4 #[true, true, true, false, true, false, false, true, false] (fun s_ => [(17, .agg #[.int .i64 t586, .int .i64 t587, .bool t588]), (8, .pointer (some ⟨s_, 0, none⟩))]) (fun s_ w' => (w'.cell? ⟨gb571, 0, none⟩ = some (.int .i64 a0_0) ∧ w'.cell? ⟨gb571, 1, none⟩ = some (.int .i64 a0_1) ∧ w'.cell? ⟨gb571, 2, none⟩ = some (.bool a0_2) ∧ w'.cell? ⟨gb572, 0, none⟩ = some (.int .i64 a1_0) ∧ w'.cell? ⟨gb572, 1, none⟩ = some (.int .i64 a1_1) ∧ w'.cell? ⟨gb572, 2, none⟩ = some (.bool a1_2) ∧ w'.cell? ⟨gb573, 0, none⟩ = some (.int .i64 a2_0) ∧ w'.cell? ⟨gb573, 1, none⟩ = some (.int .i64 a2_1) ∧ w'.cell? ⟨gb573, 2, none⟩ = some (.bool a2_2)) ∧ (w'.heap[gb571]? = some (.cells #[.int .i64 a0_0, .int .i64 a0_1, .bool a0_2] 37 (0, 0))) ∧ (w'.heap[gb572]? = some (.cells #[.int .i64 a1_0, .int .i64 a1_1, .bool a1_2] 37 (0, 0))) ∧ (w'.heap[gb573]? = some (.cells #[.int .i64 a2_0, .int .i64 a2_1, .bool a2_2] 37 (0, 0))) ∧ (w'.heap[gb585]? = some (.cells #[.int .i64 t583, .int .i64 t584] 31 (0, 0))) ∧ (w'.heap[s_]? = some (.cells #[.int .i64 0, .int .i64 0] 31 (0, 0))) ∧ (w.heap.size ≤ s_) ∧ (w.heap.size ≤ s_) ∧ (gb571 ≠ s_) ∧ (s_ ≠ gb571) ∧ (gb572 ≠ s_) ∧ (s_ ≠ gb572) ∧ (gb573 ≠ s_) ∧ (s_ ≠ gb573) ∧ (gb585 ≠ s_) ∧ (s_ ≠ gb585) ∧ (Below w.heap.size w w')) ?_ ?_
        rotate_left
        ·intro hJ1_7
         refine join_ (σ := Unit) 5 #[true, true, true, false, true, false, false, false, false] (fun s_ => [(17, .agg #[.int .i64 t586, .int .i64 t587, .bool t588])]) (fun s_ w' => (w'.cell? ⟨gb571, 0, none⟩ = some (.int .i64 a0_0) ∧ w'.cell? ⟨gb571, 1, none⟩ = some (.int .i64 a0_1) ∧ w'.cell? ⟨gb571, 2, none⟩ = some (.bool a0_2) ∧ w'.cell? ⟨gb572, 0, none⟩ = some (.int .i64 a1_0) ∧ w'.cell? ⟨gb572, 1, none⟩ = some (.int .i64 a1_1) ∧ w'.cell? ⟨gb572, 2, none⟩ = some (.bool a1_2) ∧ w'.cell? ⟨gb573, 0, none⟩ = some (.int .i64 a2_0) ∧ w'.cell? ⟨gb573, 1, none⟩ = some (.int .i64 a2_1) ∧ w'.cell? ⟨gb573, 2, none⟩ = some (.bool a2_2)) ∧ (w'.heap[gb571]? = some (.cells #[.int .i64 a0_0, .int .i64 a0_1, .bool a0_2] 37 (0, 0))) ∧ (w'.heap[gb572]? = some (.cells #[.int .i64 a1_0, .int .i64 a1_1, .bool a1_2] 37 (0, 0))) ∧ (w'.heap[gb573]? = some (.cells #[.int .i64 a2_0, .int .i64 a2_1, .bool a2_2] 37 (0, 0))) ∧ (w'.heap[gb585]? = some (.cells #[.int .i64 t583, .int .i64 t584] 31 (0, 0))) ∧ (Below w.heap.size w w')) ?_ ?_
         rotate_left
         ·intro hJ1
          refine join_ (σ := Nat) 5 #[true, false, true, false, true, false, false, true, false] (fun s_ => [(8, .pointer (some ⟨s_, 0, none⟩))]) (fun s_ w' => (w'.cell? ⟨gb571, 0, none⟩ = some (.int .i64 a0_0) ∧ w'.cell? ⟨gb571, 1, none⟩ = some (.int .i64 a0_1) ∧ w'.cell? ⟨gb571, 2, none⟩ = some (.bool a0_2) ∧ w'.cell? ⟨gb572, 0, none⟩ = some (.int .i64 a1_0) ∧ w'.cell? ⟨gb572, 1, none⟩ = some (.int .i64 a1_1) ∧ w'.cell? ⟨gb572, 2, none⟩ = some (.bool a1_2) ∧ w'.cell? ⟨gb573, 0, none⟩ = some (.int .i64 a2_0) ∧ w'.cell? ⟨gb573, 1, none⟩ = some (.int .i64 a2_1) ∧ w'.cell? ⟨gb573, 2, none⟩ = some (.bool a2_2)) ∧ (w'.heap[gb571]? = some (.cells #[.int .i64 a0_0, .int .i64 a0_1, .bool a0_2] 37 (0, 0))) ∧ (w'.heap[gb572]? = some (.cells #[.int .i64 a1_0, .int .i64 a1_1, .bool a1_2] 37 (0, 0))) ∧ (w'.heap[gb573]? = some (.cells #[.int .i64 a2_0, .int .i64 a2_1, .bool a2_2] 37 (0, 0))) ∧ (w'.heap[gb585]? = some (.cells #[.int .i64 t583, .int .i64 t584] 31 (0, 0))) ∧ (w'.heap[s_]? = some (.cells #[.int .i64 0, .int .i64 0] 31 (0, 0))) ∧ (w.heap.size ≤ s_) ∧ (w.heap.size ≤ s_) ∧ (gb571 ≠ s_) ∧ (s_ ≠ gb571) ∧ (gb572 ≠ s_) ∧ (s_ ≠ gb572) ∧ (gb573 ≠ s_) ∧ (s_ ≠ gb573) ∧ (gb585 ≠ s_) ∧ (s_ ≠ gb585) ∧ (Below w.heap.size w w')) ?_ ?_
          rotate_left
          ·intro hJ7
           refine two_ (i := 1) (j := 7) (Ni := some 17) (Nj := some 8) #[true, true, true, false, true, false, false, false, false] #[true, false, true, false, true, false, false, true, false] rfl rfl rfl rfl (two_of HT_.out (by kernel_rfl)) (by decide) (by decide) (fun K hK => ?_) (fun K hK => ?_)
           ·skip
            refine goes_ Try.func24 (by kernel_rfl) rfl #[.agg #[.int .i64 a0_0, .int .i64 a0_1, .bool a0_2]] (by rfl) rfl rfl (by (try simp only [List.map_toArray, List.map_cons, List.map_nil]); first | done | rfl | (simp only [List.length_drop, List.length_take]; rfl)) ?_
            with_reducible refine (laws_toPoint.calls a0_0 a0_1 a0_2 t586 t587 t588 _ A8.out).mono ?_
            rintro e w28 ⟨rfl, hb⟩
            refine ⟨_, rfl, ?_⟩
            replace BK571 := bB BK571 hb
            replace BK572 := bB BK572 hb
            replace BK573 := bB BK573 hb
            replace BK585 := bB BK585 hb
            replace HB := bS HB hb
            (try clear hb)
            (try clear hb2)
            (try clear hk)
            (try clear hi)
            refine hK.out _ _ ⟨bc BK571 0, bc BK571 1, bc BK571 2, bc BK572 0, bc BK572 1, bc BK572 2, bc BK573 0, bc BK573 1, bc BK573 2⟩ (fun hHeld => ?_)
            clear hK K
            refine norm_ (a' := ?_) ?_ ?_
            rotate_left
            ·show Act.put _ (some 17) _ = _
             simp only [Act.put, List.setIfInBounds_toArray, List.set_cons_zero, List.set_cons_succ, i64_w, i32_w]
             rfl
            exact norm_ (by first | (simp only [putAll, Act.put, List.setIfInBounds_toArray, List.set_cons_zero, List.set_cons_succ]; done) | (simp only [putAll, Act.put, List.setIfInBounds_toArray, List.set_cons_zero, List.set_cons_succ]; rfl)) (hJ1 () _ ⟨hHeld, (bP BK571), (bP BK572), (bP BK573), (bP BK585), (bZ HB)⟩)
           ·skip
            refine box_step ?hg (N := 8) ?hd (cs := #[.int .i64 0, .int .i64 0]) (t := 31) ?hr ?_; (case hd => rfl); (case hg => rfl); (case hr => first | (go_simp; done) | (go_simp; rfl))
            intro gb597 hg w28 hbox hb
            have BK597 := Aside0.mk (hbox)
            have GW597 := bG HB hg
            have GE597 := bG HB hg
            replace HB := bS HB hb
            have NB571_597 := bL BK571 hg
            have NB597_571 := bR BK571 hg
            replace BK571 := bB BK571 hb
            have NB572_597 := bL BK572 hg
            have NB597_572 := bR BK572 hg
            replace BK572 := bB BK572 hb
            have NB573_597 := bL BK573 hg
            have NB597_573 := bR BK573 hg
            replace BK573 := bB BK573 hb
            have NB585_597 := bL BK585 hg
            have NB597_585 := bR BK585 hg
            replace BK585 := bB BK585 hb
            clear hb hbox hg
            refine hK.out _ _ ⟨bc BK571 0, bc BK571 1, bc BK571 2, bc BK572 0, bc BK572 1, bc BK572 2, bc BK573 0, bc BK573 1, bc BK573 2⟩ (fun hHeld => ?_)
            clear hK K
            refine norm_ (a' := ?_) ?_ ?_
            rotate_left
            ·show Act.put _ (some 8) _ = _
             simp only [Act.put, List.setIfInBounds_toArray, List.set_cons_zero, List.set_cons_succ, i64_w, i32_w]
             rfl
            exact norm_ (by first | (simp only [putAll, Act.put, List.setIfInBounds_toArray, List.set_cons_zero, List.set_cons_succ]; done) | (simp only [putAll, Act.put, List.setIfInBounds_toArray, List.set_cons_zero, List.set_cons_succ]; rfl)) (hJ7 (gb597) _ ⟨hHeld, (bP BK571), (bP BK572), (bP BK573), (bP BK585), (bP BK597), GW597.out, GE597.out, NB571_597.out, NB597_571.out, NB572_597.out, NB597_572.out, NB573_597.out, NB597_573.out, NB585_597.out, NB597_585.out, (bZ HB)⟩)
          ·skip
           rintro gb597 w29 ⟨hS_, h0_, h1_, h2_, h3_, h4_, h5_, h6_, h7_, h8_, h9_, h10_, h11_, h12_, h13_, h14_, h15_⟩
           replace BK571 : Aside0 (w29.heap[gb571]? = some (.cells #[.int .i64 a0_0, .int .i64 a0_1, .bool a0_2] 37 (0, 0))) := ⟨h0_⟩
           replace BK572 : Aside0 (w29.heap[gb572]? = some (.cells #[.int .i64 a1_0, .int .i64 a1_1, .bool a1_2] 37 (0, 0))) := ⟨h1_⟩
           replace BK573 : Aside0 (w29.heap[gb573]? = some (.cells #[.int .i64 a2_0, .int .i64 a2_1, .bool a2_2] 37 (0, 0))) := ⟨h2_⟩
           replace BK585 : Aside0 (w29.heap[gb585]? = some (.cells #[.int .i64 t583, .int .i64 t584] 31 (0, 0))) := ⟨h3_⟩
           have BK597 : Aside0 (w29.heap[gb597]? = some (.cells #[.int .i64 0, .int .i64 0] 31 (0, 0))) := ⟨h4_⟩
           have GW597 : Aside0 (w.heap.size ≤ gb597) := ⟨h5_⟩
           have GE597 : Aside0 (w.heap.size ≤ gb597) := ⟨h6_⟩
           have NB571_597 : Aside0 (gb571 ≠ gb597) := ⟨h7_⟩
           have NB597_571 : Aside0 (gb597 ≠ gb571) := ⟨h8_⟩
           have NB572_597 : Aside0 (gb572 ≠ gb597) := ⟨h9_⟩
           have NB597_572 : Aside0 (gb597 ≠ gb572) := ⟨h10_⟩
           have NB573_597 : Aside0 (gb573 ≠ gb597) := ⟨h11_⟩
           have NB597_573 : Aside0 (gb597 ≠ gb573) := ⟨h12_⟩
           have NB585_597 : Aside0 (gb585 ≠ gb597) := ⟨h13_⟩
           have NB597_585 : Aside0 (gb597 ≠ gb585) := ⟨h14_⟩
           replace HB : Aside0 (Below w.heap.size w w29) := ⟨h15_⟩
           clear h0_ h1_ h2_ h3_ h4_ h5_ h6_ h7_ h8_ h9_ h10_ h11_ h12_ h13_ h14_ h15_
           have hHeld : w29.cell? ⟨gb571, 0, none⟩ = some (.int .i64 a0_0) ∧ w29.cell? ⟨gb571, 1, none⟩ = some (.int .i64 a0_1) ∧ w29.cell? ⟨gb571, 2, none⟩ = some (.bool a0_2) ∧ w29.cell? ⟨gb572, 0, none⟩ = some (.int .i64 a1_0) ∧ w29.cell? ⟨gb572, 1, none⟩ = some (.int .i64 a1_1) ∧ w29.cell? ⟨gb572, 2, none⟩ = some (.bool a1_2) ∧ w29.cell? ⟨gb573, 0, none⟩ = some (.int .i64 a2_0) ∧ w29.cell? ⟨gb573, 1, none⟩ = some (.int .i64 a2_1) ∧ w29.cell? ⟨gb573, 2, none⟩ = some (.bool a2_2) := hS_
           refine norm_ (a' := ?_) ?_ ?_
           rotate_left
           ·simp only [putAll, Act.put, List.setIfInBounds_toArray, List.set_cons_zero, List.set_cons_succ]
            rfl
           refine one_ (i := 1) (N := some 17) #[true, true, true, false, true, false, false, true, false] rfl rfl (one_of HT_.out (by kernel_rfl)) (by decide) (fun K hK => ?_)
           refine goes_ Try.func24 (by kernel_rfl) rfl #[.agg #[.int .i64 a0_0, .int .i64 a0_1, .bool a0_2]] (by rfl) rfl rfl (by (try simp only [List.map_toArray, List.map_cons, List.map_nil]); first | done | rfl | (simp only [List.length_drop, List.length_take]; rfl)) ?_
           with_reducible refine (laws_toPoint.calls a0_0 a0_1 a0_2 t586 t587 t588 _ A8.out).mono ?_
           rintro e w30 ⟨rfl, hb⟩
           refine ⟨_, rfl, ?_⟩
           replace BK571 := bB BK571 hb
           replace BK572 := bB BK572 hb
           replace BK573 := bB BK573 hb
           replace BK585 := bB BK585 hb
           replace BK597 := bB BK597 hb
           replace HB := bS HB hb
           (try clear hb)
           (try clear hb2)
           (try clear hk)
           (try clear hi)
           refine hK.out _ _ ⟨bc BK571 0, bc BK571 1, bc BK571 2, bc BK572 0, bc BK572 1, bc BK572 2, bc BK573 0, bc BK573 1, bc BK573 2⟩ (fun hHeld => ?_)
           clear hK K
           refine norm_ (a' := ?_) ?_ ?_
           rotate_left
           ·show Act.put _ (some 17) _ = _
            simp only [Act.put, List.setIfInBounds_toArray, List.set_cons_zero, List.set_cons_succ, i64_w, i32_w]
            rfl
           exact norm_ (by first | (simp only [putAll, Act.put, List.setIfInBounds_toArray, List.set_cons_zero, List.set_cons_succ]; done) | (simp only [putAll, Act.put, List.setIfInBounds_toArray, List.set_cons_zero, List.set_cons_succ]; rfl)) (hJ1_7 (gb597) _ ⟨hHeld, (bP BK571), (bP BK572), (bP BK573), (bP BK585), (bP BK597), GW597.out, GE597.out, NB571_597.out, NB597_571.out, NB572_597.out, NB597_572.out, NB573_597.out, NB597_573.out, NB585_597.out, NB597_585.out, (bZ HB)⟩)
         ·skip
          rintro _ w29 ⟨hS_, h0_, h1_, h2_, h3_, h4_⟩
          replace BK571 : Aside0 (w29.heap[gb571]? = some (.cells #[.int .i64 a0_0, .int .i64 a0_1, .bool a0_2] 37 (0, 0))) := ⟨h0_⟩
          replace BK572 : Aside0 (w29.heap[gb572]? = some (.cells #[.int .i64 a1_0, .int .i64 a1_1, .bool a1_2] 37 (0, 0))) := ⟨h1_⟩
          replace BK573 : Aside0 (w29.heap[gb573]? = some (.cells #[.int .i64 a2_0, .int .i64 a2_1, .bool a2_2] 37 (0, 0))) := ⟨h2_⟩
          replace BK585 : Aside0 (w29.heap[gb585]? = some (.cells #[.int .i64 t583, .int .i64 t584] 31 (0, 0))) := ⟨h3_⟩
          replace HB : Aside0 (Below w.heap.size w w29) := ⟨h4_⟩
          clear h0_ h1_ h2_ h3_ h4_
          have hHeld : w29.cell? ⟨gb571, 0, none⟩ = some (.int .i64 a0_0) ∧ w29.cell? ⟨gb571, 1, none⟩ = some (.int .i64 a0_1) ∧ w29.cell? ⟨gb571, 2, none⟩ = some (.bool a0_2) ∧ w29.cell? ⟨gb572, 0, none⟩ = some (.int .i64 a1_0) ∧ w29.cell? ⟨gb572, 1, none⟩ = some (.int .i64 a1_1) ∧ w29.cell? ⟨gb572, 2, none⟩ = some (.bool a1_2) ∧ w29.cell? ⟨gb573, 0, none⟩ = some (.int .i64 a2_0) ∧ w29.cell? ⟨gb573, 1, none⟩ = some (.int .i64 a2_1) ∧ w29.cell? ⟨gb573, 2, none⟩ = some (.bool a2_2) := hS_
          refine norm_ (a' := ?_) ?_ ?_
          rotate_left
          ·simp only [putAll, Act.put, List.setIfInBounds_toArray, List.set_cons_zero, List.set_cons_succ]
           rfl
          refine two_ (i := 3) (j := 7) (Ni := some 19) (Nj := some 8) #[true, true, true, true, true, false, false, false, false] #[true, true, true, false, true, false, false, true, false] rfl rfl rfl rfl (two_of HT_.out (by kernel_rfl)) (by decide) (by decide) (fun K hK => ?_) (fun K hK => ?_)
          ·skip
           refine goes_ Try.func24 (by kernel_rfl) rfl #[.agg #[.int .i64 a1_0, .int .i64 a1_1, .bool a1_2]] (by rfl) rfl rfl (by (try simp only [List.map_toArray, List.map_cons, List.map_nil]); first | done | rfl | (simp only [List.length_drop, List.length_take]; rfl)) ?_
           with_reducible refine (laws_toPoint.calls a1_0 a1_1 a1_2 t589 t590 t591 _ A9.out).mono ?_
           rintro e w30 ⟨rfl, hb⟩
           refine ⟨_, rfl, ?_⟩
           replace BK571 := bB BK571 hb
           replace BK572 := bB BK572 hb
           replace BK573 := bB BK573 hb
           replace BK585 := bB BK585 hb
           replace HB := bS HB hb
           (try clear hb)
           (try clear hb2)
           (try clear hk)
           (try clear hi)
           refine hK.out _ _ ⟨bc BK571 0, bc BK571 1, bc BK571 2, bc BK572 0, bc BK572 1, bc BK572 2, bc BK573 0, bc BK573 1, bc BK573 2⟩ (fun hHeld => ?_)
           clear hK K
           refine norm_ (a' := ?_) ?_ ?_
           rotate_left
           ·show Act.put _ (some 19) _ = _
            simp only [Act.put, List.setIfInBounds_toArray, List.set_cons_zero, List.set_cons_succ, i64_w, i32_w]
            rfl
           exact norm_ (by first | (simp only [putAll, Act.put, List.setIfInBounds_toArray, List.set_cons_zero, List.set_cons_succ]; done) | (simp only [putAll, Act.put, List.setIfInBounds_toArray, List.set_cons_zero, List.set_cons_succ]; rfl)) (hJ1_3 () _ ⟨hHeld, (bP BK571), (bP BK572), (bP BK573), (bP BK585), (bZ HB)⟩)
          ·skip
           refine box_step ?hg (N := 8) ?hd (cs := #[.int .i64 0, .int .i64 0]) (t := 31) ?hr ?_; (case hd => rfl); (case hg => rfl); (case hr => first | (go_simp; done) | (go_simp; rfl))
           intro gb597 hg w30 hbox hb
           have BK597 := Aside0.mk (hbox)
           have GW597 := bG HB hg
           have GE597 := bG HB hg
           replace HB := bS HB hb
           have NB571_597 := bL BK571 hg
           have NB597_571 := bR BK571 hg
           replace BK571 := bB BK571 hb
           have NB572_597 := bL BK572 hg
           have NB597_572 := bR BK572 hg
           replace BK572 := bB BK572 hb
           have NB573_597 := bL BK573 hg
           have NB597_573 := bR BK573 hg
           replace BK573 := bB BK573 hb
           have NB585_597 := bL BK585 hg
           have NB597_585 := bR BK585 hg
           replace BK585 := bB BK585 hb
           clear hb hbox hg
           refine hK.out _ _ ⟨bc BK571 0, bc BK571 1, bc BK571 2, bc BK572 0, bc BK572 1, bc BK572 2, bc BK573 0, bc BK573 1, bc BK573 2⟩ (fun hHeld => ?_)
           clear hK K
           refine norm_ (a' := ?_) ?_ ?_
           rotate_left
           ·show Act.put _ (some 8) _ = _
            simp only [Act.put, List.setIfInBounds_toArray, List.set_cons_zero, List.set_cons_succ, i64_w, i32_w]
            rfl
           exact norm_ (by first | (simp only [putAll, Act.put, List.setIfInBounds_toArray, List.set_cons_zero, List.set_cons_succ]; done) | (simp only [putAll, Act.put, List.setIfInBounds_toArray, List.set_cons_zero, List.set_cons_succ]; rfl)) (hJ1_7 (gb597) _ ⟨hHeld, (bP BK571), (bP BK572), (bP BK573), (bP BK585), (bP BK597), GW597.out, GE597.out, NB571_597.out, NB597_571.out, NB572_597.out, NB597_572.out, NB573_597.out, NB597_573.out, NB585_597.out, NB597_585.out, (bZ HB)⟩)
        ·skip
         rintro gb597 w30 ⟨hS_, h0_, h1_, h2_, h3_, h4_, h5_, h6_, h7_, h8_, h9_, h10_, h11_, h12_, h13_, h14_, h15_⟩
         replace BK571 : Aside0 (w30.heap[gb571]? = some (.cells #[.int .i64 a0_0, .int .i64 a0_1, .bool a0_2] 37 (0, 0))) := ⟨h0_⟩
         replace BK572 : Aside0 (w30.heap[gb572]? = some (.cells #[.int .i64 a1_0, .int .i64 a1_1, .bool a1_2] 37 (0, 0))) := ⟨h1_⟩
         replace BK573 : Aside0 (w30.heap[gb573]? = some (.cells #[.int .i64 a2_0, .int .i64 a2_1, .bool a2_2] 37 (0, 0))) := ⟨h2_⟩
         replace BK585 : Aside0 (w30.heap[gb585]? = some (.cells #[.int .i64 t583, .int .i64 t584] 31 (0, 0))) := ⟨h3_⟩
         have BK597 : Aside0 (w30.heap[gb597]? = some (.cells #[.int .i64 0, .int .i64 0] 31 (0, 0))) := ⟨h4_⟩
         have GW597 : Aside0 (w.heap.size ≤ gb597) := ⟨h5_⟩
         have GE597 : Aside0 (w.heap.size ≤ gb597) := ⟨h6_⟩
         have NB571_597 : Aside0 (gb571 ≠ gb597) := ⟨h7_⟩
         have NB597_571 : Aside0 (gb597 ≠ gb571) := ⟨h8_⟩
         have NB572_597 : Aside0 (gb572 ≠ gb597) := ⟨h9_⟩
         have NB597_572 : Aside0 (gb597 ≠ gb572) := ⟨h10_⟩
         have NB573_597 : Aside0 (gb573 ≠ gb597) := ⟨h11_⟩
         have NB597_573 : Aside0 (gb597 ≠ gb573) := ⟨h12_⟩
         have NB585_597 : Aside0 (gb585 ≠ gb597) := ⟨h13_⟩
         have NB597_585 : Aside0 (gb597 ≠ gb585) := ⟨h14_⟩
         replace HB : Aside0 (Below w.heap.size w w30) := ⟨h15_⟩
         clear h0_ h1_ h2_ h3_ h4_ h5_ h6_ h7_ h8_ h9_ h10_ h11_ h12_ h13_ h14_ h15_
         have hHeld : w30.cell? ⟨gb571, 0, none⟩ = some (.int .i64 a0_0) ∧ w30.cell? ⟨gb571, 1, none⟩ = some (.int .i64 a0_1) ∧ w30.cell? ⟨gb571, 2, none⟩ = some (.bool a0_2) ∧ w30.cell? ⟨gb572, 0, none⟩ = some (.int .i64 a1_0) ∧ w30.cell? ⟨gb572, 1, none⟩ = some (.int .i64 a1_1) ∧ w30.cell? ⟨gb572, 2, none⟩ = some (.bool a1_2) ∧ w30.cell? ⟨gb573, 0, none⟩ = some (.int .i64 a2_0) ∧ w30.cell? ⟨gb573, 1, none⟩ = some (.int .i64 a2_1) ∧ w30.cell? ⟨gb573, 2, none⟩ = some (.bool a2_2) := hS_
         refine norm_ (a' := ?_) ?_ ?_
         rotate_left
         ·simp only [putAll, Act.put, List.setIfInBounds_toArray, List.set_cons_zero, List.set_cons_succ]
          rfl
         refine one_ (i := 3) (N := some 19) #[true, true, true, true, true, false, false, true, false] rfl rfl (one_of HT_.out (by kernel_rfl)) (by decide) (fun K hK => ?_)
         refine goes_ Try.func24 (by kernel_rfl) rfl #[.agg #[.int .i64 a1_0, .int .i64 a1_1, .bool a1_2]] (by rfl) rfl rfl (by (try simp only [List.map_toArray, List.map_cons, List.map_nil]); first | done | rfl | (simp only [List.length_drop, List.length_take]; rfl)) ?_
         with_reducible refine (laws_toPoint.calls a1_0 a1_1 a1_2 t589 t590 t591 _ A9.out).mono ?_
         rintro e w31 ⟨rfl, hb⟩
         refine ⟨_, rfl, ?_⟩
         replace BK571 := bB BK571 hb
         replace BK572 := bB BK572 hb
         replace BK573 := bB BK573 hb
         replace BK585 := bB BK585 hb
         replace BK597 := bB BK597 hb
         replace HB := bS HB hb
         (try clear hb)
         (try clear hb2)
         (try clear hk)
         (try clear hi)
         refine hK.out _ _ ⟨bc BK571 0, bc BK571 1, bc BK571 2, bc BK572 0, bc BK572 1, bc BK572 2, bc BK573 0, bc BK573 1, bc BK573 2⟩ (fun hHeld => ?_)
         clear hK K
         refine norm_ (a' := ?_) ?_ ?_
         rotate_left
         ·show Act.put _ (some 19) _ = _
          simp only [Act.put, List.setIfInBounds_toArray, List.set_cons_zero, List.set_cons_succ, i64_w, i32_w]
          rfl
         exact norm_ (by first | (simp only [putAll, Act.put, List.setIfInBounds_toArray, List.set_cons_zero, List.set_cons_succ]; done) | (simp only [putAll, Act.put, List.setIfInBounds_toArray, List.set_cons_zero, List.set_cons_succ]; rfl)) (hJ1_3_7 (gb597) _ ⟨hHeld, (bP BK571), (bP BK572), (bP BK573), (bP BK585), (bP BK597), GW597.out, GE597.out, NB571_597.out, NB597_571.out, NB572_597.out, NB597_572.out, NB573_597.out, NB597_573.out, NB585_597.out, NB597_585.out, (bZ HB)⟩)
       ·skip
        rintro _ w30 ⟨hS_, h0_, h1_, h2_, h3_, h4_⟩
        replace BK571 : Aside0 (w30.heap[gb571]? = some (.cells #[.int .i64 a0_0, .int .i64 a0_1, .bool a0_2] 37 (0, 0))) := ⟨h0_⟩
        replace BK572 : Aside0 (w30.heap[gb572]? = some (.cells #[.int .i64 a1_0, .int .i64 a1_1, .bool a1_2] 37 (0, 0))) := ⟨h1_⟩
        replace BK573 : Aside0 (w30.heap[gb573]? = some (.cells #[.int .i64 a2_0, .int .i64 a2_1, .bool a2_2] 37 (0, 0))) := ⟨h2_⟩
        replace BK585 : Aside0 (w30.heap[gb585]? = some (.cells #[.int .i64 t583, .int .i64 t584] 31 (0, 0))) := ⟨h3_⟩
        replace HB : Aside0 (Below w.heap.size w w30) := ⟨h4_⟩
        clear h0_ h1_ h2_ h3_ h4_
        have hHeld : w30.cell? ⟨gb571, 0, none⟩ = some (.int .i64 a0_0) ∧ w30.cell? ⟨gb571, 1, none⟩ = some (.int .i64 a0_1) ∧ w30.cell? ⟨gb571, 2, none⟩ = some (.bool a0_2) ∧ w30.cell? ⟨gb572, 0, none⟩ = some (.int .i64 a1_0) ∧ w30.cell? ⟨gb572, 1, none⟩ = some (.int .i64 a1_1) ∧ w30.cell? ⟨gb572, 2, none⟩ = some (.bool a1_2) ∧ w30.cell? ⟨gb573, 0, none⟩ = some (.int .i64 a2_0) ∧ w30.cell? ⟨gb573, 1, none⟩ = some (.int .i64 a2_1) ∧ w30.cell? ⟨gb573, 2, none⟩ = some (.bool a2_2) := hS_
        refine norm_ (a' := ?_) ?_ ?_
        rotate_left
        ·simp only [putAll, Act.put, List.setIfInBounds_toArray, List.set_cons_zero, List.set_cons_succ]
         rfl
        refine two_ (i := 5) (j := 7) (Ni := some 21) (Nj := some 8) #[true, true, true, true, true, true, false, false, false] #[true, true, true, true, true, false, false, true, false] rfl rfl rfl rfl (two_of HT_.out (by kernel_rfl)) (by decide) (by decide) (fun K hK => ?_) (fun K hK => ?_)
        ·skip
         refine goes_ Try.func24 (by kernel_rfl) rfl #[.agg #[.int .i64 a2_0, .int .i64 a2_1, .bool a2_2]] (by rfl) rfl rfl (by (try simp only [List.map_toArray, List.map_cons, List.map_nil]); first | done | rfl | (simp only [List.length_drop, List.length_take]; rfl)) ?_
         with_reducible refine (laws_toPoint.calls a2_0 a2_1 a2_2 t592 t593 t594 _ A10.out).mono ?_
         rintro e w31 ⟨rfl, hb⟩
         refine ⟨_, rfl, ?_⟩
         replace BK571 := bB BK571 hb
         replace BK572 := bB BK572 hb
         replace BK573 := bB BK573 hb
         replace BK585 := bB BK585 hb
         replace HB := bS HB hb
         (try clear hb)
         (try clear hb2)
         (try clear hk)
         (try clear hi)
         refine hK.out _ _ ⟨bc BK571 0, bc BK571 1, bc BK571 2, bc BK572 0, bc BK572 1, bc BK572 2, bc BK573 0, bc BK573 1, bc BK573 2⟩ (fun hHeld => ?_)
         clear hK K
         refine norm_ (a' := ?_) ?_ ?_
         rotate_left
         ·show Act.put _ (some 21) _ = _
          simp only [Act.put, List.setIfInBounds_toArray, List.set_cons_zero, List.set_cons_succ, i64_w, i32_w]
          rfl
         exact norm_ (by first | (simp only [putAll, Act.put, List.setIfInBounds_toArray, List.set_cons_zero, List.set_cons_succ]; done) | (simp only [putAll, Act.put, List.setIfInBounds_toArray, List.set_cons_zero, List.set_cons_succ]; rfl)) (hJ1_3_5 () _ ⟨hHeld, (bP BK571), (bP BK572), (bP BK573), (bP BK585), (bZ HB)⟩)
        ·skip
         refine box_step ?hg (N := 8) ?hd (cs := #[.int .i64 0, .int .i64 0]) (t := 31) ?hr ?_; (case hd => rfl); (case hg => rfl); (case hr => first | (go_simp; done) | (go_simp; rfl))
         intro gb597 hg w31 hbox hb
         have BK597 := Aside0.mk (hbox)
         have GW597 := bG HB hg
         have GE597 := bG HB hg
         replace HB := bS HB hb
         have NB571_597 := bL BK571 hg
         have NB597_571 := bR BK571 hg
         replace BK571 := bB BK571 hb
         have NB572_597 := bL BK572 hg
         have NB597_572 := bR BK572 hg
         replace BK572 := bB BK572 hb
         have NB573_597 := bL BK573 hg
         have NB597_573 := bR BK573 hg
         replace BK573 := bB BK573 hb
         have NB585_597 := bL BK585 hg
         have NB597_585 := bR BK585 hg
         replace BK585 := bB BK585 hb
         clear hb hbox hg
         refine hK.out _ _ ⟨bc BK571 0, bc BK571 1, bc BK571 2, bc BK572 0, bc BK572 1, bc BK572 2, bc BK573 0, bc BK573 1, bc BK573 2⟩ (fun hHeld => ?_)
         clear hK K
         refine norm_ (a' := ?_) ?_ ?_
         rotate_left
         ·show Act.put _ (some 8) _ = _
          simp only [Act.put, List.setIfInBounds_toArray, List.set_cons_zero, List.set_cons_succ, i64_w, i32_w]
          rfl
         exact norm_ (by first | (simp only [putAll, Act.put, List.setIfInBounds_toArray, List.set_cons_zero, List.set_cons_succ]; done) | (simp only [putAll, Act.put, List.setIfInBounds_toArray, List.set_cons_zero, List.set_cons_succ]; rfl)) (hJ1_3_7 (gb597) _ ⟨hHeld, (bP BK571), (bP BK572), (bP BK573), (bP BK585), (bP BK597), GW597.out, GE597.out, NB571_597.out, NB597_571.out, NB572_597.out, NB597_572.out, NB573_597.out, NB597_573.out, NB585_597.out, NB597_585.out, (bZ HB)⟩)
      ·skip
       rintro gb597 w31 ⟨hS_, h0_, h1_, h2_, h3_, h4_, h5_, h6_, h7_, h8_, h9_, h10_, h11_, h12_, h13_, h14_, h15_⟩
       replace BK571 : Aside0 (w31.heap[gb571]? = some (.cells #[.int .i64 a0_0, .int .i64 a0_1, .bool a0_2] 37 (0, 0))) := ⟨h0_⟩
       replace BK572 : Aside0 (w31.heap[gb572]? = some (.cells #[.int .i64 a1_0, .int .i64 a1_1, .bool a1_2] 37 (0, 0))) := ⟨h1_⟩
       replace BK573 : Aside0 (w31.heap[gb573]? = some (.cells #[.int .i64 a2_0, .int .i64 a2_1, .bool a2_2] 37 (0, 0))) := ⟨h2_⟩
       replace BK585 : Aside0 (w31.heap[gb585]? = some (.cells #[.int .i64 t583, .int .i64 t584] 31 (0, 0))) := ⟨h3_⟩
       have BK597 : Aside0 (w31.heap[gb597]? = some (.cells #[.int .i64 0, .int .i64 0] 31 (0, 0))) := ⟨h4_⟩
       have GW597 : Aside0 (w.heap.size ≤ gb597) := ⟨h5_⟩
       have GE597 : Aside0 (w.heap.size ≤ gb597) := ⟨h6_⟩
       have NB571_597 : Aside0 (gb571 ≠ gb597) := ⟨h7_⟩
       have NB597_571 : Aside0 (gb597 ≠ gb571) := ⟨h8_⟩
       have NB572_597 : Aside0 (gb572 ≠ gb597) := ⟨h9_⟩
       have NB597_572 : Aside0 (gb597 ≠ gb572) := ⟨h10_⟩
       have NB573_597 : Aside0 (gb573 ≠ gb597) := ⟨h11_⟩
       have NB597_573 : Aside0 (gb597 ≠ gb573) := ⟨h12_⟩
       have NB585_597 : Aside0 (gb585 ≠ gb597) := ⟨h13_⟩
       have NB597_585 : Aside0 (gb597 ≠ gb585) := ⟨h14_⟩
       replace HB : Aside0 (Below w.heap.size w w31) := ⟨h15_⟩
       clear h0_ h1_ h2_ h3_ h4_ h5_ h6_ h7_ h8_ h9_ h10_ h11_ h12_ h13_ h14_ h15_
       have hHeld : w31.cell? ⟨gb571, 0, none⟩ = some (.int .i64 a0_0) ∧ w31.cell? ⟨gb571, 1, none⟩ = some (.int .i64 a0_1) ∧ w31.cell? ⟨gb571, 2, none⟩ = some (.bool a0_2) ∧ w31.cell? ⟨gb572, 0, none⟩ = some (.int .i64 a1_0) ∧ w31.cell? ⟨gb572, 1, none⟩ = some (.int .i64 a1_1) ∧ w31.cell? ⟨gb572, 2, none⟩ = some (.bool a1_2) ∧ w31.cell? ⟨gb573, 0, none⟩ = some (.int .i64 a2_0) ∧ w31.cell? ⟨gb573, 1, none⟩ = some (.int .i64 a2_1) ∧ w31.cell? ⟨gb573, 2, none⟩ = some (.bool a2_2) := hS_
       refine norm_ (a' := ?_) ?_ ?_
       rotate_left
       ·simp only [putAll, Act.put, List.setIfInBounds_toArray, List.set_cons_zero, List.set_cons_succ]
        rfl
       refine one_ (i := 5) (N := some 21) #[true, true, true, true, true, true, false, true, false] rfl rfl (one_of HT_.out (by kernel_rfl)) (by decide) (fun K hK => ?_)
       refine goes_ Try.func24 (by kernel_rfl) rfl #[.agg #[.int .i64 a2_0, .int .i64 a2_1, .bool a2_2]] (by rfl) rfl rfl (by (try simp only [List.map_toArray, List.map_cons, List.map_nil]); first | done | rfl | (simp only [List.length_drop, List.length_take]; rfl)) ?_
       with_reducible refine (laws_toPoint.calls a2_0 a2_1 a2_2 t592 t593 t594 _ A10.out).mono ?_
       rintro e w32 ⟨rfl, hb⟩
       refine ⟨_, rfl, ?_⟩
       replace BK571 := bB BK571 hb
       replace BK572 := bB BK572 hb
       replace BK573 := bB BK573 hb
       replace BK585 := bB BK585 hb
       replace BK597 := bB BK597 hb
       replace HB := bS HB hb
       (try clear hb)
       (try clear hb2)
       (try clear hk)
       (try clear hi)
       refine hK.out _ _ ⟨bc BK571 0, bc BK571 1, bc BK571 2, bc BK572 0, bc BK572 1, bc BK572 2, bc BK573 0, bc BK573 1, bc BK573 2⟩ (fun hHeld => ?_)
       clear hK K
       refine norm_ (a' := ?_) ?_ ?_
       rotate_left
       ·show Act.put _ (some 21) _ = _
        simp only [Act.put, List.setIfInBounds_toArray, List.set_cons_zero, List.set_cons_succ, i64_w, i32_w]
        rfl
       exact norm_ (by first | (simp only [putAll, Act.put, List.setIfInBounds_toArray, List.set_cons_zero, List.set_cons_succ]; done) | (simp only [putAll, Act.put, List.setIfInBounds_toArray, List.set_cons_zero, List.set_cons_succ]; rfl)) (hJ1_3_5_7 (gb597) _ ⟨hHeld, (bP BK571), (bP BK572), (bP BK573), (bP BK585), (bP BK597), GW597.out, GE597.out, NB571_597.out, NB597_571.out, NB572_597.out, NB597_572.out, NB573_597.out, NB597_573.out, NB585_597.out, NB597_585.out, (bZ HB)⟩)
     ·skip
      rintro _ w31 ⟨hS_, h0_, h1_, h2_, h3_, h4_⟩
      replace BK571 : Aside0 (w31.heap[gb571]? = some (.cells #[.int .i64 a0_0, .int .i64 a0_1, .bool a0_2] 37 (0, 0))) := ⟨h0_⟩
      replace BK572 : Aside0 (w31.heap[gb572]? = some (.cells #[.int .i64 a1_0, .int .i64 a1_1, .bool a1_2] 37 (0, 0))) := ⟨h1_⟩
      replace BK573 : Aside0 (w31.heap[gb573]? = some (.cells #[.int .i64 a2_0, .int .i64 a2_1, .bool a2_2] 37 (0, 0))) := ⟨h2_⟩
      replace BK585 : Aside0 (w31.heap[gb585]? = some (.cells #[.int .i64 t583, .int .i64 t584] 31 (0, 0))) := ⟨h3_⟩
      replace HB : Aside0 (Below w.heap.size w w31) := ⟨h4_⟩
      clear h0_ h1_ h2_ h3_ h4_
      have hHeld : w31.cell? ⟨gb571, 0, none⟩ = some (.int .i64 a0_0) ∧ w31.cell? ⟨gb571, 1, none⟩ = some (.int .i64 a0_1) ∧ w31.cell? ⟨gb571, 2, none⟩ = some (.bool a0_2) ∧ w31.cell? ⟨gb572, 0, none⟩ = some (.int .i64 a1_0) ∧ w31.cell? ⟨gb572, 1, none⟩ = some (.int .i64 a1_1) ∧ w31.cell? ⟨gb572, 2, none⟩ = some (.bool a1_2) ∧ w31.cell? ⟨gb573, 0, none⟩ = some (.int .i64 a2_0) ∧ w31.cell? ⟨gb573, 1, none⟩ = some (.int .i64 a2_1) ∧ w31.cell? ⟨gb573, 2, none⟩ = some (.bool a2_2) := hS_
      refine norm_ (a' := ?_) ?_ ?_
      rotate_left
      ·simp only [putAll, Act.put, List.setIfInBounds_toArray, List.set_cons_zero, List.set_cons_succ]
       rfl
      refine two_ (i := 6) (j := 7) (Ni := some 22) (Nj := some 8) #[true, true, true, true, true, true, true, false, false] #[true, true, true, true, true, true, false, true, false] rfl rfl rfl rfl (two_of HT_.out (by kernel_rfl)) (by decide) (by decide) (fun K hK => ?_) (fun K hK => ?_)
      ·skip
       refine goes_ Try.func25 (by kernel_rfl) rfl #[.agg #[.int .i64 t586, .int .i64 t587, .bool t588], .agg #[.int .i64 t589, .int .i64 t590, .bool t591], .agg #[.int .i64 t592, .int .i64 t593, .bool t594]] (by rfl) rfl rfl (by (try simp only [List.map_toArray, List.map_cons, List.map_nil]); first | done | rfl | (simp only [List.length_drop, List.length_take]; rfl)) ?_
       with_reducible refine (impl_PairLine.calls k t586 t587 t588 t589 t590 t591 t592 t593 t594 t595 t596 _ A11.out).mono ?_
       rintro e w32 ⟨rfl, hb⟩
       refine ⟨_, rfl, ?_⟩
       replace BK571 := bB BK571 hb
       replace BK572 := bB BK572 hb
       replace BK573 := bB BK573 hb
       replace BK585 := bB BK585 hb
       replace HB := bS HB hb
       (try clear hb)
       (try clear hb2)
       (try clear hk)
       (try clear hi)
       refine hK.out _ _ ⟨bc BK571 0, bc BK571 1, bc BK571 2, bc BK572 0, bc BK572 1, bc BK572 2, bc BK573 0, bc BK573 1, bc BK573 2⟩ (fun hHeld => ?_)
       clear hK K
       refine norm_ (a' := ?_) ?_ ?_
       rotate_left
       ·show Act.put _ (some 22) _ = _
        simp only [Act.put, List.setIfInBounds_toArray, List.set_cons_zero, List.set_cons_succ, i64_w, i32_w]
        rfl
       exact norm_ (by first | (simp only [putAll, Act.put, List.setIfInBounds_toArray, List.set_cons_zero, List.set_cons_succ]; done) | (simp only [putAll, Act.put, List.setIfInBounds_toArray, List.set_cons_zero, List.set_cons_succ]; rfl)) (hJ1_3_5_6 () _ ⟨hHeld, (bP BK571), (bP BK572), (bP BK573), (bP BK585), (bZ HB)⟩)
      ·skip
       refine box_step ?hg (N := 8) ?hd (cs := #[.int .i64 0, .int .i64 0]) (t := 31) ?hr ?_; (case hd => rfl); (case hg => rfl); (case hr => first | (go_simp; done) | (go_simp; rfl))
       intro gb597 hg w32 hbox hb
       have BK597 := Aside0.mk (hbox)
       have GW597 := bG HB hg
       have GE597 := bG HB hg
       replace HB := bS HB hb
       have NB571_597 := bL BK571 hg
       have NB597_571 := bR BK571 hg
       replace BK571 := bB BK571 hb
       have NB572_597 := bL BK572 hg
       have NB597_572 := bR BK572 hg
       replace BK572 := bB BK572 hb
       have NB573_597 := bL BK573 hg
       have NB597_573 := bR BK573 hg
       replace BK573 := bB BK573 hb
       have NB585_597 := bL BK585 hg
       have NB597_585 := bR BK585 hg
       replace BK585 := bB BK585 hb
       clear hb hbox hg
       refine hK.out _ _ ⟨bc BK571 0, bc BK571 1, bc BK571 2, bc BK572 0, bc BK572 1, bc BK572 2, bc BK573 0, bc BK573 1, bc BK573 2⟩ (fun hHeld => ?_)
       clear hK K
       refine norm_ (a' := ?_) ?_ ?_
       rotate_left
       ·show Act.put _ (some 8) _ = _
        simp only [Act.put, List.setIfInBounds_toArray, List.set_cons_zero, List.set_cons_succ, i64_w, i32_w]
        rfl
       exact norm_ (by first | (simp only [putAll, Act.put, List.setIfInBounds_toArray, List.set_cons_zero, List.set_cons_succ]; done) | (simp only [putAll, Act.put, List.setIfInBounds_toArray, List.set_cons_zero, List.set_cons_succ]; rfl)) (hJ1_3_5_7 (gb597) _ ⟨hHeld, (bP BK571), (bP BK572), (bP BK573), (bP BK585), (bP BK597), GW597.out, GE597.out, NB571_597.out, NB597_571.out, NB572_597.out, NB597_572.out, NB573_597.out, NB597_573.out, NB585_597.out, NB597_585.out, (bZ HB)⟩)
    ·skip
     rintro gb597 w32 ⟨hS_, h0_, h1_, h2_, h3_, h4_, h5_, h6_, h7_, h8_, h9_, h10_, h11_, h12_, h13_, h14_, h15_⟩
     replace BK571 : Aside0 (w32.heap[gb571]? = some (.cells #[.int .i64 a0_0, .int .i64 a0_1, .bool a0_2] 37 (0, 0))) := ⟨h0_⟩
     replace BK572 : Aside0 (w32.heap[gb572]? = some (.cells #[.int .i64 a1_0, .int .i64 a1_1, .bool a1_2] 37 (0, 0))) := ⟨h1_⟩
     replace BK573 : Aside0 (w32.heap[gb573]? = some (.cells #[.int .i64 a2_0, .int .i64 a2_1, .bool a2_2] 37 (0, 0))) := ⟨h2_⟩
     replace BK585 : Aside0 (w32.heap[gb585]? = some (.cells #[.int .i64 t583, .int .i64 t584] 31 (0, 0))) := ⟨h3_⟩
     have BK597 : Aside0 (w32.heap[gb597]? = some (.cells #[.int .i64 0, .int .i64 0] 31 (0, 0))) := ⟨h4_⟩
     have GW597 : Aside0 (w.heap.size ≤ gb597) := ⟨h5_⟩
     have GE597 : Aside0 (w.heap.size ≤ gb597) := ⟨h6_⟩
     have NB571_597 : Aside0 (gb571 ≠ gb597) := ⟨h7_⟩
     have NB597_571 : Aside0 (gb597 ≠ gb571) := ⟨h8_⟩
     have NB572_597 : Aside0 (gb572 ≠ gb597) := ⟨h9_⟩
     have NB597_572 : Aside0 (gb597 ≠ gb572) := ⟨h10_⟩
     have NB573_597 : Aside0 (gb573 ≠ gb597) := ⟨h11_⟩
     have NB597_573 : Aside0 (gb597 ≠ gb573) := ⟨h12_⟩
     have NB585_597 : Aside0 (gb585 ≠ gb597) := ⟨h13_⟩
     have NB597_585 : Aside0 (gb597 ≠ gb585) := ⟨h14_⟩
     replace HB : Aside0 (Below w.heap.size w w32) := ⟨h15_⟩
     clear h0_ h1_ h2_ h3_ h4_ h5_ h6_ h7_ h8_ h9_ h10_ h11_ h12_ h13_ h14_ h15_
     have hHeld : w32.cell? ⟨gb571, 0, none⟩ = some (.int .i64 a0_0) ∧ w32.cell? ⟨gb571, 1, none⟩ = some (.int .i64 a0_1) ∧ w32.cell? ⟨gb571, 2, none⟩ = some (.bool a0_2) ∧ w32.cell? ⟨gb572, 0, none⟩ = some (.int .i64 a1_0) ∧ w32.cell? ⟨gb572, 1, none⟩ = some (.int .i64 a1_1) ∧ w32.cell? ⟨gb572, 2, none⟩ = some (.bool a1_2) ∧ w32.cell? ⟨gb573, 0, none⟩ = some (.int .i64 a2_0) ∧ w32.cell? ⟨gb573, 1, none⟩ = some (.int .i64 a2_1) ∧ w32.cell? ⟨gb573, 2, none⟩ = some (.bool a2_2) := hS_
     refine norm_ (a' := ?_) ?_ ?_
     rotate_left
     ·simp only [putAll, Act.put, List.setIfInBounds_toArray, List.set_cons_zero, List.set_cons_succ]
      rfl
     refine one_ (i := 6) (N := some 22) #[true, true, true, true, true, true, true, true, false] rfl rfl (one_of HT_.out (by kernel_rfl)) (by decide) (fun K hK => ?_)
     refine goes_ Try.func25 (by kernel_rfl) rfl #[.agg #[.int .i64 t586, .int .i64 t587, .bool t588], .agg #[.int .i64 t589, .int .i64 t590, .bool t591], .agg #[.int .i64 t592, .int .i64 t593, .bool t594]] (by rfl) rfl rfl (by (try simp only [List.map_toArray, List.map_cons, List.map_nil]); first | done | rfl | (simp only [List.length_drop, List.length_take]; rfl)) ?_
     with_reducible refine (impl_PairLine.calls k t586 t587 t588 t589 t590 t591 t592 t593 t594 t595 t596 _ A11.out).mono ?_
     rintro e w33 ⟨rfl, hb⟩
     refine ⟨_, rfl, ?_⟩
     replace BK571 := bB BK571 hb
     replace BK572 := bB BK572 hb
     replace BK573 := bB BK573 hb
     replace BK585 := bB BK585 hb
     replace BK597 := bB BK597 hb
     replace HB := bS HB hb
     (try clear hb)
     (try clear hb2)
     (try clear hk)
     (try clear hi)
     refine hK.out _ _ ⟨bc BK571 0, bc BK571 1, bc BK571 2, bc BK572 0, bc BK572 1, bc BK572 2, bc BK573 0, bc BK573 1, bc BK573 2⟩ (fun hHeld => ?_)
     clear hK K
     refine norm_ (a' := ?_) ?_ ?_
     rotate_left
     ·show Act.put _ (some 22) _ = _
      simp only [Act.put, List.setIfInBounds_toArray, List.set_cons_zero, List.set_cons_succ, i64_w, i32_w]
      rfl
     exact norm_ (by first | (simp only [putAll, Act.put, List.setIfInBounds_toArray, List.set_cons_zero, List.set_cons_succ]; done) | (simp only [putAll, Act.put, List.setIfInBounds_toArray, List.set_cons_zero, List.set_cons_succ]; rfl)) (hJ1_3_5_6_7 (gb597) _ ⟨hHeld, (bP BK571), (bP BK572), (bP BK573), (bP BK585), (bP BK597), GW597.out, GE597.out, NB571_597.out, NB597_571.out, NB572_597.out, NB597_572.out, NB573_597.out, NB597_573.out, NB585_597.out, NB597_585.out, (bZ HB)⟩)
   ·skip
    rintro _ w32 ⟨hS_, h0_, h1_, h2_, h3_, h4_⟩
    replace BK571 : Aside0 (w32.heap[gb571]? = some (.cells #[.int .i64 a0_0, .int .i64 a0_1, .bool a0_2] 37 (0, 0))) := ⟨h0_⟩
    replace BK572 : Aside0 (w32.heap[gb572]? = some (.cells #[.int .i64 a1_0, .int .i64 a1_1, .bool a1_2] 37 (0, 0))) := ⟨h1_⟩
    replace BK573 : Aside0 (w32.heap[gb573]? = some (.cells #[.int .i64 a2_0, .int .i64 a2_1, .bool a2_2] 37 (0, 0))) := ⟨h2_⟩
    replace BK585 : Aside0 (w32.heap[gb585]? = some (.cells #[.int .i64 t583, .int .i64 t584] 31 (0, 0))) := ⟨h3_⟩
    replace HB : Aside0 (Below w.heap.size w w32) := ⟨h4_⟩
    clear h0_ h1_ h2_ h3_ h4_
    have hHeld : w32.cell? ⟨gb571, 0, none⟩ = some (.int .i64 a0_0) ∧ w32.cell? ⟨gb571, 1, none⟩ = some (.int .i64 a0_1) ∧ w32.cell? ⟨gb571, 2, none⟩ = some (.bool a0_2) ∧ w32.cell? ⟨gb572, 0, none⟩ = some (.int .i64 a1_0) ∧ w32.cell? ⟨gb572, 1, none⟩ = some (.int .i64 a1_1) ∧ w32.cell? ⟨gb572, 2, none⟩ = some (.bool a1_2) ∧ w32.cell? ⟨gb573, 0, none⟩ = some (.int .i64 a2_0) ∧ w32.cell? ⟨gb573, 1, none⟩ = some (.int .i64 a2_1) ∧ w32.cell? ⟨gb573, 2, none⟩ = some (.bool a2_2) := hS_
    refine norm_ (a' := ?_) ?_ ?_
    rotate_left
    ·simp only [putAll, Act.put, List.setIfInBounds_toArray, List.set_cons_zero, List.set_cons_succ]
     rfl
    refine one_ (i := 7) (N := some 8) #[true, true, true, true, true, true, true, true, false] rfl rfl (one_of HT_.out (by kernel_rfl)) (by decide) (fun K hK => ?_)
    refine box_step ?hg (N := 8) ?hd (cs := #[.int .i64 0, .int .i64 0]) (t := 31) ?hr ?_; (case hd => rfl); (case hg => rfl); (case hr => first | (go_simp; done) | (go_simp; rfl))
    intro gb597 hg w33 hbox hb
    have BK597 := Aside0.mk (hbox)
    have GW597 := bG HB hg
    have GE597 := bG HB hg
    replace HB := bS HB hb
    have NB571_597 := bL BK571 hg
    have NB597_571 := bR BK571 hg
    replace BK571 := bB BK571 hb
    have NB572_597 := bL BK572 hg
    have NB597_572 := bR BK572 hg
    replace BK572 := bB BK572 hb
    have NB573_597 := bL BK573 hg
    have NB597_573 := bR BK573 hg
    replace BK573 := bB BK573 hb
    have NB585_597 := bL BK585 hg
    have NB597_585 := bR BK585 hg
    replace BK585 := bB BK585 hb
    clear hb hbox hg
    refine hK.out _ _ ⟨bc BK571 0, bc BK571 1, bc BK571 2, bc BK572 0, bc BK572 1, bc BK572 2, bc BK573 0, bc BK573 1, bc BK573 2⟩ (fun hHeld => ?_)
    clear hK K
    refine norm_ (a' := ?_) ?_ ?_
    rotate_left
    ·show Act.put _ (some 8) _ = _
     simp only [Act.put, List.setIfInBounds_toArray, List.set_cons_zero, List.set_cons_succ, i64_w, i32_w]
     rfl
    exact norm_ (by first | (simp only [putAll, Act.put, List.setIfInBounds_toArray, List.set_cons_zero, List.set_cons_succ]; done) | (simp only [putAll, Act.put, List.setIfInBounds_toArray, List.set_cons_zero, List.set_cons_succ]; rfl)) (hJ1_3_5_6_7 (gb597) _ ⟨hHeld, (bP BK571), (bP BK572), (bP BK573), (bP BK585), (bP BK597), GW597.out, GE597.out, NB571_597.out, NB597_571.out, NB572_597.out, NB597_572.out, NB573_597.out, NB597_573.out, NB585_597.out, NB597_585.out, (bZ HB)⟩)
  rintro gb597 w33 ⟨hS_, h0_, h1_, h2_, h3_, h4_, h5_, h6_, h7_, h8_, h9_, h10_, h11_, h12_, h13_, h14_, h15_⟩
  replace BK571 : Aside0 (w33.heap[gb571]? = some (.cells #[.int .i64 a0_0, .int .i64 a0_1, .bool a0_2] 37 (0, 0))) := ⟨h0_⟩
  replace BK572 : Aside0 (w33.heap[gb572]? = some (.cells #[.int .i64 a1_0, .int .i64 a1_1, .bool a1_2] 37 (0, 0))) := ⟨h1_⟩
  replace BK573 : Aside0 (w33.heap[gb573]? = some (.cells #[.int .i64 a2_0, .int .i64 a2_1, .bool a2_2] 37 (0, 0))) := ⟨h2_⟩
  replace BK585 : Aside0 (w33.heap[gb585]? = some (.cells #[.int .i64 t583, .int .i64 t584] 31 (0, 0))) := ⟨h3_⟩
  have BK597 : Aside0 (w33.heap[gb597]? = some (.cells #[.int .i64 0, .int .i64 0] 31 (0, 0))) := ⟨h4_⟩
  have GW597 : Aside0 (w.heap.size ≤ gb597) := ⟨h5_⟩
  have GE597 : Aside0 (w.heap.size ≤ gb597) := ⟨h6_⟩
  have NB571_597 : Aside0 (gb571 ≠ gb597) := ⟨h7_⟩
  have NB597_571 : Aside0 (gb597 ≠ gb571) := ⟨h8_⟩
  have NB572_597 : Aside0 (gb572 ≠ gb597) := ⟨h9_⟩
  have NB597_572 : Aside0 (gb597 ≠ gb572) := ⟨h10_⟩
  have NB573_597 : Aside0 (gb573 ≠ gb597) := ⟨h11_⟩
  have NB597_573 : Aside0 (gb597 ≠ gb573) := ⟨h12_⟩
  have NB585_597 : Aside0 (gb585 ≠ gb597) := ⟨h13_⟩
  have NB597_585 : Aside0 (gb597 ≠ gb585) := ⟨h14_⟩
  replace HB : Aside0 (Below w.heap.size w w33) := ⟨h15_⟩
  clear h0_ h1_ h2_ h3_ h4_ h5_ h6_ h7_ h8_ h9_ h10_ h11_ h12_ h13_ h14_ h15_
  have hHeld : w33.cell? ⟨gb571, 0, none⟩ = some (.int .i64 a0_0) ∧ w33.cell? ⟨gb571, 1, none⟩ = some (.int .i64 a0_1) ∧ w33.cell? ⟨gb571, 2, none⟩ = some (.bool a0_2) ∧ w33.cell? ⟨gb572, 0, none⟩ = some (.int .i64 a1_0) ∧ w33.cell? ⟨gb572, 1, none⟩ = some (.int .i64 a1_1) ∧ w33.cell? ⟨gb572, 2, none⟩ = some (.bool a1_2) ∧ w33.cell? ⟨gb573, 0, none⟩ = some (.int .i64 a2_0) ∧ w33.cell? ⟨gb573, 1, none⟩ = some (.int .i64 a2_1) ∧ w33.cell? ⟨gb573, 2, none⟩ = some (.bool a2_2) := hS_
  refine norm_ (a' := ?_) ?_ ?_
  rotate_left
  ·simp only [putAll, Act.put, List.setIfInBounds_toArray, List.set_cons_zero, List.set_cons_succ]
   rfl
  refine one_ (i := 8) (N := none) #[true, true, true, true, true, true, true, true, true] rfl rfl (one_of HT_.out (by kernel_rfl)) (by decide) (fun K hK => ?_)
  have hs34 : w33.cell? ⟨gb597, 0, none⟩ = some (.int .i64 0) := bc BK597 0
  have hfs34 := blk_frozen BK597.out 0
  have hns34_0 := NB571_597.out
  have hns34_1 := NB572_597.out
  have hns34_2 := NB573_597.out
  have hns34_3 := NB585_597.out
  have hms34_0 := NB597_571.out
  have hms34_1 := NB597_572.out
  have hms34_2 := NB597_573.out
  have hms34_3 := NB597_585.out
  have hs35 : w33.cell? ⟨gb597, 1, none⟩ = some (.int .i64 0) := bc BK597 1
  have hfs35 := blk_frozen BK597.out 1
  have hns35_0 := NB571_597.out
  have hns35_1 := NB572_597.out
  have hns35_2 := NB573_597.out
  have hns35_3 := NB585_597.out
  have hms35_0 := NB597_571.out
  have hms35_1 := NB597_572.out
  have hms35_2 := NB597_573.out
  have hms35_3 := NB597_585.out
  refine skip_ (w1 := ?_) (by rfl) rfl ?_ ?_
  rotate_left
  ·go_simp
   rfl
  refine hK.out _ _ ⟨((cell_far (p := ⟨gb597, _, none⟩) NB571_597.out _).trans (((cell_far (p := ⟨gb597, _, none⟩) NB571_597.out _).trans (hHeld.1)))), ((cell_far (p := ⟨gb597, _, none⟩) NB571_597.out _).trans (((cell_far (p := ⟨gb597, _, none⟩) NB571_597.out _).trans (hHeld.2.1)))), ((cell_far (p := ⟨gb597, _, none⟩) NB571_597.out _).trans (((cell_far (p := ⟨gb597, _, none⟩) NB571_597.out _).trans (hHeld.2.2.1)))), ((cell_far (p := ⟨gb597, _, none⟩) NB572_597.out _).trans (((cell_far (p := ⟨gb597, _, none⟩) NB572_597.out _).trans (hHeld.2.2.2.1)))), ((cell_far (p := ⟨gb597, _, none⟩) NB572_597.out _).trans (((cell_far (p := ⟨gb597, _, none⟩) NB572_597.out _).trans (hHeld.2.2.2.2.1)))), ((cell_far (p := ⟨gb597, _, none⟩) NB572_597.out _).trans (((cell_far (p := ⟨gb597, _, none⟩) NB572_597.out _).trans (hHeld.2.2.2.2.2.1)))), ((cell_far (p := ⟨gb597, _, none⟩) NB573_597.out _).trans (((cell_far (p := ⟨gb597, _, none⟩) NB573_597.out _).trans (hHeld.2.2.2.2.2.2.1)))), ((cell_far (p := ⟨gb597, _, none⟩) NB573_597.out _).trans (((cell_far (p := ⟨gb597, _, none⟩) NB573_597.out _).trans (hHeld.2.2.2.2.2.2.2.1)))), ((cell_far (p := ⟨gb597, _, none⟩) NB573_597.out _).trans (((cell_far (p := ⟨gb597, _, none⟩) NB573_597.out _).trans (hHeld.2.2.2.2.2.2.2.2))))⟩ (fun hHeld => ?_)
  clear hK K
  refine done_ (done_of HT_.out (by kernel_rfl)) ?_
  have hnb36 := NB597_571.out
  have hnc36 := NB571_597.out
  have hnb37 := NB597_572.out
  have hnc37 := NB572_597.out
  have hnb38 := NB597_573.out
  have hnc38 := NB573_597.out
  have hnb39 := NB597_585.out
  have hnc39 := NB585_597.out
  have hcz40_0 : w33.cell? ⟨gb597, 0, none⟩ = some (.int .i64 0) := bc BK597 0
  have hcz40_1 : w33.cell? ⟨gb597, 1, none⟩ = some (.int .i64 0) := bc BK597 1
  have hfz40_0 := blk_frozen BK597.out 0
  have hfz40_1 := blk_frozen BK597.out 1
  have hnb41 := NB585_571.out
  have hnc41 := NB571_585.out
  have hnb42 := NB585_572.out
  have hnc42 := NB572_585.out
  have hnb43 := NB585_573.out
  have hnc43 := NB573_585.out
  have hcz44_0 : w33.cell? ⟨gb585, 0, none⟩ = some (.int .i64 t583) := bc BK585 0
  have hcz44_1 : w33.cell? ⟨gb585, 1, none⟩ = some (.int .i64 t584) := bc BK585 1
  have hfz44_0 := blk_frozen BK585.out 0
  have hfz44_1 := blk_frozen BK585.out 1
  try go_wp2_with (first | ((with_reducible refine gate_callee (f := 26) rfl ?_); refine goesL_ (some 25) rfl rfl Try.func26 (by kernel_rfl) rfl #[.agg #[.int .i64 t595, .int .i64 t596], .agg #[.int .i64 t583, .int .i64 t584]] rfl (by (try simp only [List.map_toArray, List.map_cons, List.map_nil]); first | done | rfl | (simp only [List.length_drop, List.length_take]; rfl)) ?_; (with_reducible refine (laws_eqTwo.calls t595 t596 t583 t584 true _ A12.out).mono ?_); rintro e w45 ⟨rfl, hb⟩; refine ⟨_, rfl, ?_⟩; replace BK571 := bB BK571 hb; replace BK572 := bB BK572 hb; replace BK573 := bB BK573 hb; replace BK585 := bB BK585 hb; replace BK597 := Aside0.mk (blk_below (g := gb597) (o := .cells #[.int .i64 t595, .int .i64 t596] 31 (0, 0)) (by (with_reducible repeat (first | refine blk_drewN ?_ _ | refine blk_drew ?_ | refine blk_alloc ?_ _)); refine blk_put (cs := #[.int .i64 t595, .int .i64 0]) ?_ 1 _ rfl; (with_reducible repeat (first | refine blk_drewN ?_ _ | refine blk_drew ?_ | refine blk_alloc ?_ _)); refine blk_put (cs := #[.int .i64 0, .int .i64 0]) ?_ 0 _ rfl; (with_reducible repeat (first | refine blk_drewN ?_ _ | refine blk_drew ?_ | refine blk_alloc ?_ _)); exact BK597.out) hb); replace HB := bS HB hb; (try clear hb); (try clear hb2); (try clear hk); (try clear hi)))
  go_ret
  exact ⟨by first | rfl | (simp [errW_none, errW_some] <;> rfl) | (simp [*, errW_none, errW_some] <;> rfl), bZ HB⟩
 ·replace c13 := Bool.eq_false_iff.mpr c13
  subst c13
  have H1 : (some false) = some r := by rw [if_neg (show ¬ (false = true) by decide)] at H; exact H
  clear H
  have H := H1
  clear H1
  exact absurd (Option.some.inj H) (by rw [htrue.out]; exact Bool.false_ne_true)

/-- THE ONE PURE STATEMENT of laws_FnExactPairLine. -/
def laws_FnExactPairLine.Pure : Prop := ∀ (a0_0 : Int) (a0_1 : Int) (a0_2 : Bool) (a1_0 : Int) (a1_1 : Int) (a1_2 : Bool) (a2_0 : Int) (a2_1 : Int) (a2_2 : Bool), (Lit.int .i64 a0_0).wf = true → (Lit.int .i64 a0_1).wf = true → (Lit.int .i64 a1_0).wf = true → (Lit.int .i64 a1_1).wf = true → (Lit.int .i64 a2_0).wf = true → (Lit.int .i64 a2_1).wf = true → ∃ k, laws_FnExactPairLine.f k a0_0 a0_1 a0_2 a1_0 a1_1 a1_2 a2_0 a2_1 a2_2 = some true
/-! ### impl_add: function 66 -/
def impl_add.f (k : Nat) (a0_0 : Int) (a0_1 : Int) (a0_2 : Bool) (a1_0 : Int) (a1_1 : Int) (a1_2 : Bool) : Option (Int × Int × Bool) := if a0_2 = true then (some (a1_0, a1_1, a1_2)) else (if a1_2 = true then (some (a0_0, a0_1, a0_2)) else ((impl_slopeOf.f k a0_0 a0_1 a0_2 a1_0 a1_1 a1_2).bind fun bt314 => (if bt314.2 = true then ((impl_FpMul.f bt314.1 bt314.1).bind fun t316 => ((impl_FpSub.f t316 a0_0).bind fun t317 => ((impl_FpSub.f t317 a1_0).bind fun t318 => ((impl_FpSub.f a0_0 t318).bind fun t319 => ((impl_FpMul.f bt314.1 t319).bind fun t320 => ((impl_FpSub.f t320 a0_1).bind fun t321 => (some (t318, t321, false)))))))) else (some (0, 0, true)))))
theorem impl_add.mono : ∀ a0 a1 a2 a3 a4 a5 k, LeO (impl_add.f k a0 a1 a2 a3 a4 a5) (impl_add.f (k + 1) a0 a1 a2 a3 a4 a5) := by
 intro a0 a1 a2 a3 a4 a5 k
 unfold impl_add.f
 repeat' first
   | (with_reducible exact impl_slopeOf.mono _ _ _ _ _ _ _)
   | (with_reducible exact LeO.refl _)
   | (with_reducible exact LeO.none _)
   | (with_reducible refine LeO.ite ?_ ?_)
   | (with_reducible refine LeO.bind ?_ (fun _ => ?_))
   | exact impl_slopeOf.mono _ _ _ _ _ _ _
   | exact LeO.none _
   | refine LeO.ite ?_ ?_
   | refine LeO.bind ?_ (fun _ => ?_)
def impl_add.T8 : Bool × List (List Nat × List Nat) := (true, [([], []), ([], []), ([0, 1], [0, 1]), ([], []), ([3], [3]), ([2, 4, 2], [2, 4]), ([], []), ([6], [6]), ([5, 7, 5], [5, 7]), ([8, 8, 0, 1, 2, 3, 4, 5, 6, 7, 8], [8])])
def impl_add.B8 : List Nat := [0, 0, 3, 0, 8, 31, 0, 64, 255, 511]
theorem impl_add.tab8 : rtab .any (opsOf Try.f66 8) = impl_add.T8 := by kernel_rfl
theorem impl_add.bits8 : waitsOk impl_add.T8.2 impl_add.B8 = true := by kernel_rfl
def impl_add.T9 : Bool × List (List Nat × List Nat) := (true, [([], []), ([], []), ([], []), ([2], [2]), ([], []), ([3, 4], [3, 4]), ([1, 5, 5], [1, 5]), ([], []), ([7], [7]), ([6, 8, 6], [6, 8]), ([0, 9], [0, 9]), ([10, 9, 0, 1, 2, 3, 4, 5, 6, 7, 8, 9, 10], [10])])
def impl_add.B9 : List Nat := [0, 0, 0, 4, 0, 28, 62, 0, 128, 510, 1023, 2047]
theorem impl_add.tab9 : rtab .any (opsOf Try.f66 9) = impl_add.T9 := by kernel_rfl
theorem impl_add.bits9 : waitsOk impl_add.T9.2 impl_add.B9 = true := by kernel_rfl
set_option maxHeartbeats 8000000 in
set_option maxRecDepth 100000 in
theorem impl_add.calls (k : Nat) (a0_0 : Int) (a0_1 : Int) (a0_2 : Bool) (a1_0 : Int) (a1_1 : Int) (a1_2 : Bool) (r1 : Int) (r2 : Int) (r3 : Bool) (w : World) (h : impl_add.f k a0_0 a0_1 a0_2 a1_0 a1_1 a1_2 = some (r1, r2, r3)) :
  Calls Try.prog 66 #[.agg #[.int .i64 a0_0, .int .i64 a0_1, .bool a0_2], .agg #[.int .i64 a1_0, .int .i64 a1_1, .bool a1_2]] w fun e w' => e = .returned (.agg #[.int .i64 r1, .int .i64 r2, .bool r3]) ∧ Below w.heap.size w w' := by
 have hu25 := Try.underlying25
 have HB := Aside0.mk (Below.refl w.heap.size w)
 have H : (if a0_2 = true then (some (a1_0, a1_1, a1_2)) else (if a1_2 = true then (some (a0_0, a0_1, a0_2)) else ((impl_slopeOf.f k a0_0 a0_1 a0_2 a1_0 a1_1 a1_2).bind fun bt314 => (if bt314.2 = true then ((impl_FpMul.f bt314.1 bt314.1).bind fun t316 => ((impl_FpSub.f t316 a0_0).bind fun t317 => ((impl_FpSub.f t317 a1_0).bind fun t318 => ((impl_FpSub.f a0_0 t318).bind fun t319 => ((impl_FpMul.f bt314.1 t319).bind fun t320 => ((impl_FpSub.f t320 a0_1).bind fun t321 => (some (t318, t321, false)))))))) else (some (0, 0, true)))))) = some (r1, r2, r3) := h
 clear h
 by_cases c3 : a0_2 = true
 ·subst c3
  have H1 : (some (a1_0, a1_1, a1_2)) = some (r1, r2, r3) := by rw [if_pos rfl] at H; exact H
  clear H
  have H := H1
  clear H1
  simp only [Option.some.injEq, Prod.mk.injEq] at H
  obtain ⟨rfl, rfl, rfl⟩ := H
  go_enter Try.func66, Try.ntmps66
  go_wp2_with (first | ((with_reducible refine gate_dst (N := 2) rfl ?_); refine box_event ?hg (N := 2) ?hd (cs := #[.int .i64 a0_0, .int .i64 a0_1, .bool true]) (t := 25) ?hr ?_; (case hd => rfl); (case hg => rfl); (case hr => first | (go_simp; done) | (go_simp; rfl)); intro gb311 hg w4 hbox hb; have BK311 := Aside0.mk (hbox); have GW311 := bG HB hg; have GE311 := bG HB hg; replace HB := bS HB hb; clear hb hbox hg) | ((with_reducible refine gate_dst (N := 3) rfl ?_); refine box_event ?hg (N := 3) ?hd (cs := #[.int .i64 a1_0, .int .i64 a1_1, .bool a1_2]) (t := 25) ?hr ?_; (case hd => rfl); (case hg => rfl); (case hr => first | (go_simp; done) | (go_simp; rfl)); intro gb312 hg w5 hbox hb; have BK312 := Aside0.mk (hbox); have GW312 := bG HB hg; have GE312 := bG HB hg; replace HB := bS HB hb; have NB311_312 := bL BK311 hg; have NB312_311 := bR BK311 hg; replace BK311 := bB BK311 hb; clear hb hbox hg) | ((with_reducible refine gate_dst (N := 4) rfl ?_); refine box_event ?hg (N := 4) ?hd (cs := #[.int .i64 0, .int .i64 0, .bool false]) (t := 25) ?hr ?_; (case hd => rfl); (case hg => rfl); (case hr => first | (go_simp; done) | (go_simp; rfl)); intro gb313 hg w6 hbox hb; have BK313 := Aside0.mk (hbox); have GW313 := bG HB hg; have GE313 := bG HB hg; replace HB := bS HB hb; have NB311_313 := bL BK311 hg; have NB313_311 := bR BK311 hg; replace BK311 := bB BK311 hb; have NB312_313 := bL BK312 hg; have NB313_312 := bR BK312 hg; replace BK312 := bB BK312 hb; clear hb hbox hg; have hnb7 := NB311_312.out; have hnc7 := NB312_311.out; have hnb8 := NB311_313.out; have hnc8 := NB313_311.out; have hcz9_0 : w6.cell? ⟨gb311, 0, none⟩ = some (.int .i64 a0_0) := bc BK311 0; have hcz9_1 : w6.cell? ⟨gb311, 1, none⟩ = some (.int .i64 a0_1) := bc BK311 1; have hcz9_2 : w6.cell? ⟨gb311, 2, none⟩ = some (.bool true) := bc BK311 2; have hfz9_0 := blk_frozen BK311.out 0; have hfz9_1 := blk_frozen BK311.out 1; have hfz9_2 := blk_frozen BK311.out 2; have hnb10 := NB312_313.out; have hnc10 := NB313_312.out; have hcz11_0 : w6.cell? ⟨gb312, 0, none⟩ = some (.int .i64 a1_0) := bc BK312 0; have hcz11_1 : w6.cell? ⟨gb312, 1, none⟩ = some (.int .i64 a1_1) := bc BK312 1; have hcz11_2 : w6.cell? ⟨gb312, 2, none⟩ = some (.bool a1_2) := bc BK312 2; have hfz11_0 := blk_frozen BK312.out 0; have hfz11_1 := blk_frozen BK312.out 1; have hfz11_2 := blk_frozen BK312.out 2; have hcz12_0 : w6.cell? ⟨gb313, 0, none⟩ = some (.int .i64 0) := bc BK313 0; have hcz12_1 : w6.cell? ⟨gb313, 1, none⟩ = some (.int .i64 0) := bc BK313 1; have hcz12_2 : w6.cell? ⟨gb313, 2, none⟩ = some (.bool false) := bc BK313 2; have hfz12_0 := blk_frozen BK313.out 0; have hfz12_1 := blk_frozen BK313.out 1; have hfz12_2 := blk_frozen BK313.out 2))
  refine bodyPost_ret (results_cell_row rfl _ _ gb313 25 #[.int .i64 a1_0, .int .i64 a1_1, .bool a1_2] (0, 0) _ rfl (by (with_reducible repeat (first | refine blk_drewN ?_ _ | refine blk_drew ?_ | refine blk_alloc ?_ _)); refine blk_put (cs := #[.int .i64 a1_0, .int .i64 a1_1, .bool false]) ?_ 2 _ rfl; (with_reducible repeat (first | refine blk_drewN ?_ _ | refine blk_drew ?_ | refine blk_alloc ?_ _)); refine blk_put (cs := #[.int .i64 a1_0, .int .i64 0, .bool false]) ?_ 1 _ rfl; (with_reducible repeat (first | refine blk_drewN ?_ _ | refine blk_drew ?_ | refine blk_alloc ?_ _)); refine blk_put (cs := #[.int .i64 0, .int .i64 0, .bool false]) ?_ 0 _ rfl; (with_reducible repeat (first | refine blk_drewN ?_ _ | refine blk_drew ?_ | refine blk_alloc ?_ _)); exact BK313.out) Try.underlying25 rfl (by kernel_rfl)) rfl ?_
  exact ⟨by first | rfl | (simp [errW_none, errW_some] <;> rfl) | (simp [*, errW_none, errW_some] <;> rfl), bZ HB⟩
 ·replace c3 := Bool.eq_false_iff.mpr c3
  subst c3
  have H1 : (if a1_2 = true then (some (a0_0, a0_1, false)) else ((impl_slopeOf.f k a0_0 a0_1 false a1_0 a1_1 a1_2).bind fun bt314 => (if bt314.2 = true then ((impl_FpMul.f bt314.1 bt314.1).bind fun t316 => ((impl_FpSub.f t316 a0_0).bind fun t317 => ((impl_FpSub.f t317 a1_0).bind fun t318 => ((impl_FpSub.f a0_0 t318).bind fun t319 => ((impl_FpMul.f bt314.1 t319).bind fun t320 => ((impl_FpSub.f t320 a0_1).bind fun t321 => (some (t318, t321, false)))))))) else (some (0, 0, true))))) = some (r1, r2, r3) := by rw [if_neg (show ¬ (false = true) by decide)] at H; exact H
  clear H
  have H := H1
  clear H1
  by_cases c13 : a1_2 = true
  ·subst c13
   have H1 : (some (a0_0, a0_1, false)) = some (r1, r2, r3) := by rw [if_pos rfl] at H; exact H
   clear H
   have H := H1
   clear H1
   simp only [Option.some.injEq, Prod.mk.injEq] at H
   obtain ⟨rfl, rfl, rfl⟩ := H
   go_enter Try.func66, Try.ntmps66
   go_wp2_with (first | ((with_reducible refine gate_dst (N := 2) rfl ?_); refine box_event ?hg (N := 2) ?hd (cs := #[.int .i64 a0_0, .int .i64 a0_1, .bool false]) (t := 25) ?hr ?_; (case hd => rfl); (case hg => rfl); (case hr => first | (go_simp; done) | (go_simp; rfl)); intro gb311 hg w14 hbox hb; have BK311 := Aside0.mk (hbox); have GW311 := bG HB hg; have GE311 := bG HB hg; replace HB := bS HB hb; clear hb hbox hg) | ((with_reducible refine gate_dst (N := 3) rfl ?_); refine box_event ?hg (N := 3) ?hd (cs := #[.int .i64 a1_0, .int .i64 a1_1, .bool true]) (t := 25) ?hr ?_; (case hd => rfl); (case hg => rfl); (case hr => first | (go_simp; done) | (go_simp; rfl)); intro gb312 hg w15 hbox hb; have BK312 := Aside0.mk (hbox); have GW312 := bG HB hg; have GE312 := bG HB hg; replace HB := bS HB hb; have NB311_312 := bL BK311 hg; have NB312_311 := bR BK311 hg; replace BK311 := bB BK311 hb; clear hb hbox hg) | ((with_reducible refine gate_dst (N := 4) rfl ?_); refine box_event ?hg (N := 4) ?hd (cs := #[.int .i64 0, .int .i64 0, .bool false]) (t := 25) ?hr ?_; (case hd => rfl); (case hg => rfl); (case hr => first | (go_simp; done) | (go_simp; rfl)); intro gb313 hg w16 hbox hb; have BK313 := Aside0.mk (hbox); have GW313 := bG HB hg; have GE313 := bG HB hg; replace HB := bS HB hb; have NB311_313 := bL BK311 hg; have NB313_311 := bR BK311 hg; replace BK311 := bB BK311 hb; have NB312_313 := bL BK312 hg; have NB313_312 := bR BK312 hg; replace BK312 := bB BK312 hb; clear hb hbox hg; have hnb17 := NB311_312.out; have hnc17 := NB312_311.out; have hnb18 := NB311_313.out; have hnc18 := NB313_311.out; have hcz19_0 : w16.cell? ⟨gb311, 0, none⟩ = some (.int .i64 a0_0) := bc BK311 0; have hcz19_1 : w16.cell? ⟨gb311, 1, none⟩ = some (.int .i64 a0_1) := bc BK311 1; have hcz19_2 : w16.cell? ⟨gb311, 2, none⟩ = some (.bool false) := bc BK311 2; have hfz19_0 := blk_frozen BK311.out 0; have hfz19_1 := blk_frozen BK311.out 1; have hfz19_2 := blk_frozen BK311.out 2; have hnb20 := NB312_313.out; have hnc20 := NB313_312.out; have hcz21_0 : w16.cell? ⟨gb312, 0, none⟩ = some (.int .i64 a1_0) := bc BK312 0; have hcz21_1 : w16.cell? ⟨gb312, 1, none⟩ = some (.int .i64 a1_1) := bc BK312 1; have hcz21_2 : w16.cell? ⟨gb312, 2, none⟩ = some (.bool true) := bc BK312 2; have hfz21_0 := blk_frozen BK312.out 0; have hfz21_1 := blk_frozen BK312.out 1; have hfz21_2 := blk_frozen BK312.out 2; have hcz22_0 : w16.cell? ⟨gb313, 0, none⟩ = some (.int .i64 0) := bc BK313 0; have hcz22_1 : w16.cell? ⟨gb313, 1, none⟩ = some (.int .i64 0) := bc BK313 1; have hcz22_2 : w16.cell? ⟨gb313, 2, none⟩ = some (.bool false) := bc BK313 2; have hfz22_0 := blk_frozen BK313.out 0; have hfz22_1 := blk_frozen BK313.out 1; have hfz22_2 := blk_frozen BK313.out 2))
   refine bodyPost_ret (results_cell_row rfl _ _ gb313 25 #[.int .i64 a0_0, .int .i64 a0_1, .bool false] (0, 0) _ rfl (by (with_reducible repeat (first | refine blk_drewN ?_ _ | refine blk_drew ?_ | refine blk_alloc ?_ _)); refine blk_put (cs := #[.int .i64 a0_0, .int .i64 a0_1, .bool false]) ?_ 2 _ rfl; (with_reducible repeat (first | refine blk_drewN ?_ _ | refine blk_drew ?_ | refine blk_alloc ?_ _)); refine blk_put (cs := #[.int .i64 a0_0, .int .i64 0, .bool false]) ?_ 1 _ rfl; (with_reducible repeat (first | refine blk_drewN ?_ _ | refine blk_drew ?_ | refine blk_alloc ?_ _)); refine blk_put (cs := #[.int .i64 0, .int .i64 0, .bool false]) ?_ 0 _ rfl; (with_reducible repeat (first | refine blk_drewN ?_ _ | refine blk_drew ?_ | refine blk_alloc ?_ _)); exact BK313.out) Try.underlying25 rfl (by kernel_rfl)) rfl ?_
   exact ⟨by first | rfl | (simp [errW_none, errW_some] <;> rfl) | (simp [*, errW_none, errW_some] <;> rfl), bZ HB⟩
  ·replace c13 := Bool.eq_false_iff.mpr c13
   subst c13
   have H1 : ((impl_slopeOf.f k a0_0 a0_1 false a1_0 a1_1 false).bind fun bt314 => (if bt314.2 = true then ((impl_FpMul.f bt314.1 bt314.1).bind fun t316 => ((impl_FpSub.f t316 a0_0).bind fun t317 => ((impl_FpSub.f t317 a1_0).bind fun t318 => ((impl_FpSub.f a0_0 t318).bind fun t319 => ((impl_FpMul.f bt314.1 t319).bind fun t320 => ((impl_FpSub.f t320 a0_1).bind fun t321 => (some (t318, t321, false)))))))) else (some (0, 0, true)))) = some (r1, r2, r3) := by rw [if_neg (show ¬ (false = true) by decide)] at H; exact H
   clear H
   have H := H1
   clear H1
   replace H := Option.bind_eq_some_iff.mp H
   obtain ⟨⟨t314, t315⟩, A230, H⟩ := H
   replace H : (if t315 = true then ((impl_FpMul.f t314 t314).bind fun t316 => ((impl_FpSub.f t316 a0_0).bind fun t317 => ((impl_FpSub.f t317 a1_0).bind fun t318 => ((impl_FpSub.f a0_0 t318).bind fun t319 => ((impl_FpMul.f t314 t319).bind fun t320 => ((impl_FpSub.f t320 a0_1).bind fun t321 => (some (t318, t321, false)))))))) else (some (0, 0, true))) = some (r1, r2, r3) := H
   have A23 := Aside0.mk A230
   clear A230
   by_cases c24 : t315 = true
   ·subst c24
    have H1 : ((impl_FpMul.f t314 t314).bind fun t316 => ((impl_FpSub.f t316 a0_0).bind fun t317 => ((impl_FpSub.f t317 a1_0).bind fun t318 => ((impl_FpSub.f a0_0 t318).bind fun t319 => ((impl_FpMul.f t314 t319).bind fun t320 => ((impl_FpSub.f t320 a0_1).bind fun t321 => (some (t318, t321, false)))))))) = some (r1, r2, r3) := by rw [if_pos rfl] at H; exact H
    clear H
    have H := H1
    clear H1
    replace H := Option.bind_eq_some_iff.mp H
    obtain ⟨t316, A250, H⟩ := H
    replace H : ((impl_FpSub.f t316 a0_0).bind fun t317 => ((impl_FpSub.f t317 a1_0).bind fun t318 => ((impl_FpSub.f a0_0 t318).bind fun t319 => ((impl_FpMul.f t314 t319).bind fun t320 => ((impl_FpSub.f t320 a0_1).bind fun t321 => (some (t318, t321, false))))))) = some (r1, r2, r3) := H
    have A25 := Aside0.mk A250
    clear A250
    replace H := Option.bind_eq_some_iff.mp H
    obtain ⟨t317, A260, H⟩ := H
    replace H : ((impl_FpSub.f t317 a1_0).bind fun t318 => ((impl_FpSub.f a0_0 t318).bind fun t319 => ((impl_FpMul.f t314 t319).bind fun t320 => ((impl_FpSub.f t320 a0_1).bind fun t321 => (some (t318, t321, false)))))) = some (r1, r2, r3) := H
    have A26 := Aside0.mk A260
    clear A260
    replace H := Option.bind_eq_some_iff.mp H
    obtain ⟨t318, A270, H⟩ := H
    replace H : ((impl_FpSub.f a0_0 t318).bind fun t319 => ((impl_FpMul.f t314 t319).bind fun t320 => ((impl_FpSub.f t320 a0_1).bind fun t321 => (some (t318, t321, false))))) = some (r1, r2, r3) := H
    have A27 := Aside0.mk A270
    clear A270
    replace H := Option.bind_eq_some_iff.mp H
    obtain ⟨t319, A280, H⟩ := H
    replace H : ((impl_FpMul.f t314 t319).bind fun t320 => ((impl_FpSub.f t320 a0_1).bind fun t321 => (some (t318, t321, false)))) = some (r1, r2, r3) := H
    have A28 := Aside0.mk A280
    clear A280
    replace H := Option.bind_eq_some_iff.mp H
    obtain ⟨t320, A290, H⟩ := H
    replace H : ((impl_FpSub.f t320 a0_1).bind fun t321 => (some (t318, t321, false))) = some (r1, r2, r3) := H
    have A29 := Aside0.mk A290
    clear A290
    replace H := Option.bind_eq_some_iff.mp H
    obtain ⟨t321, A300, H⟩ := H
    replace H : (some (t318, t321, false)) = some (r1, r2, r3) := H
    have A30 := Aside0.mk A300
    clear A300
    simp only [Option.some.injEq, Prod.mk.injEq] at H
    obtain ⟨rfl, rfl, rfl⟩ := H
    go_enter Try.func66, Try.ntmps66
    try go_wp2_with (first | ((with_reducible refine gate_dst (N := 2) rfl ?_); refine box_event ?hg (N := 2) ?hd (cs := #[.int .i64 a0_0, .int .i64 a0_1, .bool false]) (t := 25) ?hr ?_; (case hd => rfl); (case hg => rfl); (case hr => first | (go_simp; done) | (go_simp; rfl)); intro gb311 hg w31 hbox hb; have BK311 := Aside0.mk (hbox); have GW311 := bG HB hg; have GE311 := bG HB hg; replace HB := bS HB hb; clear hb hbox hg) | ((with_reducible refine gate_dst (N := 3) rfl ?_); refine box_event ?hg (N := 3) ?hd (cs := #[.int .i64 a1_0, .int .i64 a1_1, .bool false]) (t := 25) ?hr ?_; (case hd => rfl); (case hg => rfl); (case hr => first | (go_simp; done) | (go_simp; rfl)); intro gb312 hg w32 hbox hb; have BK312 := Aside0.mk (hbox); have GW312 := bG HB hg; have GE312 := bG HB hg; replace HB := bS HB hb; have NB311_312 := bL BK311 hg; have NB312_311 := bR BK311 hg; replace BK311 := bB BK311 hb; clear hb hbox hg) | ((with_reducible refine gate_dst (N := 4) rfl ?_); refine box_event ?hg (N := 4) ?hd (cs := #[.int .i64 0, .int .i64 0, .bool false]) (t := 25) ?hr ?_; (case hd => rfl); (case hg => rfl); (case hr => first | (go_simp; done) | (go_simp; rfl)); intro gb313 hg w33 hbox hb; have BK313 := Aside0.mk (hbox); have GW313 := bG HB hg; have GE313 := bG HB hg; replace HB := bS HB hb; have NB311_313 := bL BK311 hg; have NB313_311 := bR BK311 hg; replace BK311 := bB BK311 hb; have NB312_313 := bL BK312 hg; have NB313_312 := bR BK312 hg; replace BK312 := bB BK312 hb; clear hb hbox hg; have hnb34 := NB311_312.out; have hnc34 := NB312_311.out; have hnb35 := NB311_313.out; have hnc35 := NB313_311.out; have hcz36_0 : w33.cell? ⟨gb311, 0, none⟩ = some (.int .i64 a0_0) := bc BK311 0; have hcz36_1 : w33.cell? ⟨gb311, 1, none⟩ = some (.int .i64 a0_1) := bc BK311 1; have hcz36_2 : w33.cell? ⟨gb311, 2, none⟩ = some (.bool false) := bc BK311 2; have hfz36_0 := blk_frozen BK311.out 0; have hfz36_1 := blk_frozen BK311.out 1; have hfz36_2 := blk_frozen BK311.out 2; have hnb37 := NB312_313.out; have hnc37 := NB313_312.out; have hcz38_0 : w33.cell? ⟨gb312, 0, none⟩ = some (.int .i64 a1_0) := bc BK312 0; have hcz38_1 : w33.cell? ⟨gb312, 1, none⟩ = some (.int .i64 a1_1) := bc BK312 1; have hcz38_2 : w33.cell? ⟨gb312, 2, none⟩ = some (.bool false) := bc BK312 2; have hfz38_0 := blk_frozen BK312.out 0; have hfz38_1 := blk_frozen BK312.out 1; have hfz38_2 := blk_frozen BK312.out 2) | ((with_reducible refine gate_callee (f := 77) rfl ?_); refine goesL_ (some 17) rfl rfl Try.func77 (by kernel_rfl) rfl #[.agg #[.int .i64 a0_0, .int .i64 a0_1, .bool false], .agg #[.int .i64 a1_0, .int .i64 a1_1, .bool false]] rfl (by (try simp only [List.map_toArray, List.map_cons, List.map_nil]); first | done | rfl | (simp only [List.length_drop, List.length_take]; rfl)) ?_; (with_reducible refine (impl_slopeOf.calls k a0_0 a0_1 false a1_0 a1_1 false t314 true _ A23.out).mono ?_); rintro e w39 ⟨rfl, hb⟩; refine ⟨_, rfl, ?_⟩; replace BK311 := bB BK311 hb; replace BK312 := bB BK312 hb; replace BK313 := bB BK313 hb; replace HB := bS HB hb; (try clear hb); (try clear hb2); (try clear hk); (try clear hi)))
    replace BK311 := Aside0.mk (blk_drew BK311.out)
    replace BK312 := Aside0.mk (blk_drew BK312.out)
    replace BK313 := Aside0.mk (blk_drew BK313.out)
    replace HB := Aside0.mk (below_drew1 HB.out)
    refine start_ (n := 10) (S := fun w' => w'.cell? ⟨gb311, 0, none⟩ = some (.int .i64 a0_0) ∧ w'.cell? ⟨gb311, 1, none⟩ = some (.int .i64 a0_1) ∧ w'.cell? ⟨gb311, 2, none⟩ = some (.bool false) ∧ w'.cell? ⟨gb312, 0, none⟩ = some (.int .i64 a1_0) ∧ w'.cell? ⟨gb312, 1, none⟩ = some (.int .i64 a1_1) ∧ w'.cell? ⟨gb312, 2, none⟩ = some (.bool false)) (ds := []) #[false, false, false, false, false, false, false, false, false, false] (by kernel_rfl) rfl rfl ⟨bc BK311 0, bc BK311 1, bc BK311 2, bc BK312 0, bc BK312 1, bc BK312 2⟩ (fun hHeld => ?_); refine with_tabW impl_add.tab8 impl_add.bits8 (fun HT_ HW_ => ?_)
    generalize w39.drew = w40 at BK311 BK312 BK313 HB hHeld ⊢
    refine pure_ (i := 0) (N := some 23) (v := ?_) (a' := ?_) #[true, false, false, false, false, false, false, false, false, false] rfl rfl (any_of HT_.out (by kernel_rfl)) (fun _ _ _ h => h) (Or.inl ⟨by rfl, ?_⟩) ?_ ?_
    rotate_left
    ·intro w'
     go_simp
     with_reducible rfl
    rotate_left
    ·simp only [Act.put, List.setIfInBounds_toArray, List.set_cons_zero, List.set_cons_succ, i64_w, i32_w]
     rfl
    refine pure_ (i := 1) (N := some 24) (v := ?_) (a' := ?_) #[true, true, false, false, false, false, false, false, false, false] rfl rfl (any_of HT_.out (by kernel_rfl)) (fun _ _ _ h => h) (Or.inl ⟨by rfl, ?_⟩) ?_ ?_
    rotate_left
    ·intro w'
     go_simp
     with_reducible rfl
    rotate_left
    ·simp only [Act.put, List.setIfInBounds_toArray, List.set_cons_zero, List.set_cons_succ, i64_w, i32_w]
     rfl
    refine pure_ (i := 3) (N := some 26) (v := ?_) (a' := ?_) #[true, true, false, true, false, false, false, false, false, false] rfl rfl (any_of HT_.out (by kernel_rfl)) (fun _ _ _ h => h) (Or.inl ⟨by rfl, ?_⟩) ?_ ?_
    rotate_left
    ·intro w'
     go_simp
     with_reducible rfl
    rotate_left
    ·simp only [Act.put, List.setIfInBounds_toArray, List.set_cons_zero, List.set_cons_succ, i64_w, i32_w]
     rfl
    refine pure_ (i := 6) (N := some 29) (v := ?_) (a' := ?_) #[true, true, false, true, false, false, true, false, false, false] rfl rfl (any_of HT_.out (by kernel_rfl)) (fun _ _ _ h => h) (Or.inl ⟨by rfl, ?_⟩) ?_ ?_
    rotate_left
    ·intro w'
     go_simp
     with_reducible rfl
    rotate_left
    ·simp only [Act.put, List.setIfInBounds_toArray, List.set_cons_zero, List.set_cons_succ, i64_w, i32_w]
     rfl
    refine take_ (i := 4) (N := some 27) (v := ?_) (a' := ?_) #[true, true, false, true, true, false, true, false, false, false] rfl rfl (take_ofW HT_.out HW_.out (by kernel_rfl)) (fun _ _ _ h => h) (Or.inl ⟨by rfl, ?_⟩) hHeld ?_ ?_
    rotate_left
    ·rintro w' ⟨s0, s1, s2, s3, s4, s5⟩
     go_simp
     with_reducible rfl
    rotate_left
    ·simp only [Act.put, List.setIfInBounds_toArray, List.set_cons_zero, List.set_cons_succ, i64_w, i32_w]
     rfl
    refine take_ (i := 7) (N := some 30) (v := ?_) (a' := ?_) #[true, true, false, true, true, false, true, true, false, false] rfl rfl (take_ofW HT_.out HW_.out (by kernel_rfl)) (fun _ _ _ h => h) (Or.inl ⟨by rfl, ?_⟩) hHeld ?_ ?_
    rotate_left
    ·rintro w' ⟨s0, s1, s2, s3, s4, s5⟩
     go_simp
     with_reducible rfl
    rotate_left
    ·simp only [Act.put, List.setIfInBounds_toArray, List.set_cons_zero, List.set_cons_succ, i64_w, i32_w]
     rfl
    refine one_ (i := 2) (N := some 25) #[true, true, true, true, true, false, true, true, false, false] rfl rfl (one_of HT_.out (by kernel_rfl)) (by decide) (fun K hK => ?_)
    refine goes_ Try.func68 (by kernel_rfl) rfl #[.int .i64 t314, .int .i64 t314] (by rfl) rfl rfl (by (try simp only [List.map_toArray, List.map_cons, List.map_nil]); first | done | rfl | (simp only [List.length_drop, List.length_take]; rfl)) ?_
    with_reducible refine (impl_FpMul.calls t314 t314 t316 _ A25.out).mono ?_
    rintro e w' ⟨rfl, ⟨nd, rfl⟩⟩
    refine ⟨_, rfl, ?_⟩
    refine hK.out _ _ ⟨bc BK311 0, bc BK311 1, bc BK311 2, bc BK312 0, bc BK312 1, bc BK312 2⟩ (fun hHeld => ?_)
    clear hK K
    refine norm_ (a' := ?_) ?_ ?_
    rotate_left
    ·show Act.put _ (some 25) _ = _
     simp only [Act.put, List.setIfInBounds_toArray, List.set_cons_zero, List.set_cons_succ, i64_w, i32_w]
     rfl
    refine one_ (i := 5) (N := some 28) #[true, true, true, true, true, true, true, true, false, false] rfl rfl (one_of HT_.out (by kernel_rfl)) (by decide) (fun K hK => ?_)
    refine goes_ Try.func67 (by kernel_rfl) rfl #[.int .i64 t316, .int .i64 a0_0] (by rfl) rfl rfl (by (try simp only [List.map_toArray, List.map_cons, List.map_nil]); first | done | rfl | (simp only [List.length_drop, List.length_take]; rfl)) ?_
    with_reducible refine (impl_FpSub.calls t316 a0_0 t317 _ A26.out).mono ?_
    rintro e w' ⟨rfl, ⟨nd, rfl⟩⟩
    refine ⟨_, rfl, ?_⟩
    refine hK.out _ _ ⟨bc BK311 0, bc BK311 1, bc BK311 2, bc BK312 0, bc BK312 1, bc BK312 2⟩ (fun hHeld => ?_)
    clear hK K
    refine norm_ (a' := ?_) ?_ ?_
    rotate_left
    ·show Act.put _ (some 28) _ = _
     simp only [Act.put, List.setIfInBounds_toArray, List.set_cons_zero, List.set_cons_succ, i64_w, i32_w]
     rfl
    refine one_ (i := 8) (N := some 31) #[true, true, true, true, true, true, true, true, true, false] rfl rfl (one_of HT_.out (by kernel_rfl)) (by decide) (fun K hK => ?_)
    refine goes_ Try.func67 (by kernel_rfl) rfl #[.int .i64 t317, .int .i64 a1_0] (by rfl) rfl rfl (by (try simp only [List.map_toArray, List.map_cons, List.map_nil]); first | done | rfl | (simp only [List.length_drop, List.length_take]; rfl)) ?_
    with_reducible refine (impl_FpSub.calls t317 a1_0 t318 _ A27.out).mono ?_
    rintro e w' ⟨rfl, ⟨nd, rfl⟩⟩
    refine ⟨_, rfl, ?_⟩
    refine hK.out _ _ ⟨bc BK311 0, bc BK311 1, bc BK311 2, bc BK312 0, bc BK312 1, bc BK312 2⟩ (fun hHeld => ?_)
    clear hK K
    refine norm_ (a' := ?_) ?_ ?_
    rotate_left
    ·show Act.put _ (some 31) _ = _
     simp only [Act.put, List.setIfInBounds_toArray, List.set_cons_zero, List.set_cons_succ, i64_w, i32_w]
     rfl
    refine pure_ (i := 9) (N := some 7) (v := ?_) (a' := ?_) #[true, true, true, true, true, true, true, true, true, true] rfl rfl (any_of HT_.out (by kernel_rfl)) (fun _ _ _ h => h) (Or.inl ⟨by rfl, ?_⟩) ?_ ?_
    rotate_left
    ·intro w'
     go_simp
     with_reducible rfl
    rotate_left
    ·simp only [Act.put, List.setIfInBounds_toArray, List.set_cons_zero, List.set_cons_succ, i64_w, i32_w]
     rfl
    refine done_ (done_of HT_.out (by kernel_rfl)) ?_
    try go_wp2
    (try simp only [World.drewN_drewN]); (try (rw [drewN_self w40]; generalize hq_ : World.drewN w40 _ = w40; replace BK311 : Aside0 (w40.heap[gb311]? = some (.cells #[.int .i64 a0_0, .int .i64 a0_1, .bool false] 25 (0, 0))) := ⟨by rw [← hq_]; exact (bP BK311)⟩; replace BK312 : Aside0 (w40.heap[gb312]? = some (.cells #[.int .i64 a1_0, .int .i64 a1_1, .bool false] 25 (0, 0))) := ⟨by rw [← hq_]; exact (bP BK312)⟩; replace BK313 : Aside0 (w40.heap[gb313]? = some (.cells #[.int .i64 0, .int .i64 0, .bool false] 25 (0, 0))) := ⟨by rw [← hq_]; exact (bP BK313)⟩; replace HB : Aside0 (Below w.heap.size w w40) := ⟨by rw [← hq_]; exact (bZ HB)⟩; clear hq_))
    replace BK311 := Aside0.mk (blk_drew BK311.out)
    replace BK312 := Aside0.mk (blk_drew BK312.out)
    replace BK313 := Aside0.mk (blk_drew BK313.out)
    replace HB := Aside0.mk (below_drew1 HB.out)
    refine start_ (n := 12) (S := fun w' => w'.cell? ⟨gb311, 0, none⟩ = some (.int .i64 a0_0) ∧ w'.cell? ⟨gb311, 1, none⟩ = some (.int .i64 a0_1) ∧ w'.cell? ⟨gb311, 2, none⟩ = some (.bool false)) (ds := []) #[false, false, false, false, false, false, false, false, false, false, false, false] (by kernel_rfl) rfl rfl ⟨bc BK311 0, bc BK311 1, bc BK311 2⟩ (fun hHeld => ?_); refine with_tabW impl_add.tab9 impl_add.bits9 (fun HT_ HW_ => ?_)
    generalize w40.drew = w41 at BK311 BK312 BK313 HB hHeld ⊢
    refine pure_ (i := 0) (N := some 32) (v := ?_) (a' := ?_) #[true, false, false, false, false, false, false, false, false, false, false, false] rfl rfl (any_of HT_.out (by kernel_rfl)) (fun _ _ _ h => h) (Or.inl ⟨by rfl, ?_⟩) ?_ ?_
    rotate_left
    ·intro w'
     go_simp
     with_reducible rfl
    rotate_left
    ·simp only [Act.put, List.setIfInBounds_toArray, List.set_cons_zero, List.set_cons_succ, i64_w, i32_w]
     rfl
    refine pure_ (i := 1) (N := some 33) (v := ?_) (a' := ?_) #[true, true, false, false, false, false, false, false, false, false, false, false] rfl rfl (any_of HT_.out (by kernel_rfl)) (fun _ _ _ h => h) (Or.inl ⟨by rfl, ?_⟩) ?_ ?_
    rotate_left
    ·intro w'
     go_simp
     with_reducible rfl
    rotate_left
    ·simp only [Act.put, List.setIfInBounds_toArray, List.set_cons_zero, List.set_cons_succ, i64_w, i32_w]
     rfl
    refine pure_ (i := 2) (N := some 34) (v := ?_) (a' := ?_) #[true, true, true, false, false, false, false, false, false, false, false, false] rfl rfl (any_of HT_.out (by kernel_rfl)) (fun _ _ _ h => h) (Or.inl ⟨by rfl, ?_⟩) ?_ ?_
    rotate_left
    ·intro w'
     go_simp
     with_reducible rfl
    rotate_left
    ·simp only [Act.put, List.setIfInBounds_toArray, List.set_cons_zero, List.set_cons_succ, i64_w, i32_w]
     rfl
    refine pure_ (i := 4) (N := some 36) (v := ?_) (a' := ?_) #[true, true, true, false, true, false, false, false, false, false, false, false] rfl rfl (any_of HT_.out (by kernel_rfl)) (fun _ _ _ h => h) (Or.inl ⟨by rfl, ?_⟩) ?_ ?_
    rotate_left
    ·intro w'
     go_simp
     with_reducible rfl
    rotate_left
    ·simp only [Act.put, List.setIfInBounds_toArray, List.set_cons_zero, List.set_cons_succ, i64_w, i32_w]
     rfl
    refine pure_ (i := 7) (N := some 39) (v := ?_) (a' := ?_) #[true, true, true, false, true, false, false, true, false, false, false, false] rfl rfl (any_of HT_.out (by kernel_rfl)) (fun _ _ _ h => h) (Or.inl ⟨by rfl, ?_⟩) ?_ ?_
    rotate_left
    ·intro w'
     go_simp
     with_reducible rfl
    rotate_left
    ·simp only [Act.put, List.setIfInBounds_toArray, List.set_cons_zero, List.set_cons_succ, i64_w, i32_w]
     rfl
    refine take_ (i := 3) (N := some 35) (v := ?_) (a' := ?_) #[true, true, true, true, true, false, false, true, false, false, false, false] rfl rfl (take_ofW HT_.out HW_.out (by kernel_rfl)) (fun _ _ _ h => h) (Or.inl ⟨by rfl, ?_⟩) hHeld ?_ ?_
    rotate_left
    ·rintro w' ⟨s0, s1, s2⟩
     go_simp
     with_reducible rfl
    rotate_left
    ·simp only [Act.put, List.setIfInBounds_toArray, List.set_cons_zero, List.set_cons_succ, i64_w, i32_w]
     rfl
    refine take_ (i := 8) (N := some 40) (v := ?_) (a' := ?_) #[true, true, true, true, true, false, false, true, true, false, false, false] rfl rfl (take_ofW HT_.out HW_.out (by kernel_rfl)) (fun _ _ _ h => h) (Or.inl ⟨by rfl, ?_⟩) hHeld ?_ ?_
    rotate_left
    ·rintro w' ⟨s0, s1, s2⟩
     go_simp
     with_reducible rfl
    rotate_left
    ·simp only [Act.put, List.setIfInBounds_toArray, List.set_cons_zero, List.set_cons_succ, i64_w, i32_w]
     rfl
    refine one_ (i := 5) (N := some 37) #[true, true, true, true, true, true, false, true, true, false, false, false] rfl rfl (one_of HT_.out (by kernel_rfl)) (by decide) (fun K hK => ?_)
    refine goes_ Try.func67 (by kernel_rfl) rfl #[.int .i64 a0_0, .int .i64 t318] (by rfl) rfl rfl (by (try simp only [List.map_toArray, List.map_cons, List.map_nil]); first | done | rfl | (simp only [List.length_drop, List.length_take]; rfl)) ?_
    with_reducible refine (impl_FpSub.calls a0_0 t318 t319 _ A28.out).mono ?_
    rintro e w' ⟨rfl, ⟨nd, rfl⟩⟩
    refine ⟨_, rfl, ?_⟩
    refine hK.out _ _ ⟨bc BK311 0, bc BK311 1, bc BK311 2⟩ (fun hHeld => ?_)
    clear hK K
    refine norm_ (a' := ?_) ?_ ?_
    rotate_left
    ·show Act.put _ (some 37) _ = _
     simp only [Act.put, List.setIfInBounds_toArray, List.set_cons_zero, List.set_cons_succ, i64_w, i32_w]
     rfl
    refine one_ (i := 6) (N := some 38) #[true, true, true, true, true, true, true, true, true, false, false, false] rfl rfl (one_of HT_.out (by kernel_rfl)) (by decide) (fun K hK => ?_)
    refine goes_ Try.func68 (by kernel_rfl) rfl #[.int .i64 t314, .int .i64 t319] (by rfl) rfl rfl (by (try simp only [List.map_toArray, List.map_cons, List.map_nil]); first | done | rfl | (simp only [List.length_drop, List.length_take]; rfl)) ?_
    with_reducible refine (impl_FpMul.calls t314 t319 t320 _ A29.out).mono ?_
    rintro e w' ⟨rfl, ⟨nd, rfl⟩⟩
    refine ⟨_, rfl, ?_⟩
    refine hK.out _ _ ⟨bc BK311 0, bc BK311 1, bc BK311 2⟩ (fun hHeld => ?_)
    clear hK K
    refine norm_ (a' := ?_) ?_ ?_
    rotate_left
    ·show Act.put _ (some 38) _ = _
     simp only [Act.put, List.setIfInBounds_toArray, List.set_cons_zero, List.set_cons_succ, i64_w, i32_w]
     rfl
    refine one_ (i := 9) (N := some 41) #[true, true, true, true, true, true, true, true, true, true, false, false] rfl rfl (one_of HT_.out (by kernel_rfl)) (by decide) (fun K hK => ?_)
    refine goes_ Try.func67 (by kernel_rfl) rfl #[.int .i64 t320, .int .i64 a0_1] (by rfl) rfl rfl (by (try simp only [List.map_toArray, List.map_cons, List.map_nil]); first | done | rfl | (simp only [List.length_drop, List.length_take]; rfl)) ?_
    with_reducible refine (impl_FpSub.calls t320 a0_1 t321 _ A30.out).mono ?_
    rintro e w' ⟨rfl, ⟨nd, rfl⟩⟩
    refine ⟨_, rfl, ?_⟩
    refine hK.out _ _ ⟨bc BK311 0, bc BK311 1, bc BK311 2⟩ (fun hHeld => ?_)
    clear hK K
    refine norm_ (a' := ?_) ?_ ?_
    rotate_left
    ·show Act.put _ (some 41) _ = _
     simp only [Act.put, List.setIfInBounds_toArray, List.set_cons_zero, List.set_cons_succ, i64_w, i32_w]
     rfl
    refine pure_ (i := 10) (N := some 42) (v := ?_) (a' := ?_) #[true, true, true, true, true, true, true, true, true, true, true, false] rfl rfl (any_of HT_.out (by kernel_rfl)) (fun _ _ _ h => h) (Or.inl ⟨by rfl, ?_⟩) ?_ ?_
    rotate_left
    ·intro w'
     go_simp
     with_reducible rfl
    rotate_left
    ·simp only [Act.put, List.setIfInBounds_toArray, List.set_cons_zero, List.set_cons_succ, i64_w, i32_w]
     rfl
    refine one_ (i := 11) (N := none) #[true, true, true, true, true, true, true, true, true, true, true, true] rfl rfl (one_of HT_.out (by kernel_rfl)) (by decide) (fun K hK => ?_)
    have hs42 : w41.cell? ⟨gb313, 0, none⟩ = some (.int .i64 0) := bc BK313 0
    have hfs42 := blk_frozen BK313.out 0
    have hns42_0 := NB311_313.out
    have hns42_1 := NB312_313.out
    have hms42_0 := NB313_311.out
    have hms42_1 := NB313_312.out
    have hs43 : w41.cell? ⟨gb313, 1, none⟩ = some (.int .i64 0) := bc BK313 1
    have hfs43 := blk_frozen BK313.out 1
    have hns43_0 := NB311_313.out
    have hns43_1 := NB312_313.out
    have hms43_0 := NB313_311.out
    have hms43_1 := NB313_312.out
    have hs44 : w41.cell? ⟨gb313, 2, none⟩ = some (.bool false) := bc BK313 2
    have hfs44 := blk_frozen BK313.out 2
    have hns44_0 := NB311_313.out
    have hns44_1 := NB312_313.out
    have hms44_0 := NB313_311.out
    have hms44_1 := NB313_312.out
    refine skip_ (w1 := ?_) (by rfl) rfl ?_ ?_
    rotate_left
    ·go_simp
     rfl
    refine hK.out _ _ ⟨((cell_far (p := ⟨gb313, _, none⟩) NB311_313.out _).trans (((cell_far (p := ⟨gb313, _, none⟩) NB311_313.out _).trans (((cell_far (p := ⟨gb313, _, none⟩) NB311_313.out _).trans (hHeld.1)))))), ((cell_far (p := ⟨gb313, _, none⟩) NB311_313.out _).trans (((cell_far (p := ⟨gb313, _, none⟩) NB311_313.out _).trans (((cell_far (p := ⟨gb313, _, none⟩) NB311_313.out _).trans (hHeld.2.1)))))), ((cell_far (p := ⟨gb313, _, none⟩) NB311_313.out _).trans (((cell_far (p := ⟨gb313, _, none⟩) NB311_313.out _).trans (((cell_far (p := ⟨gb313, _, none⟩) NB311_313.out _).trans (hHeld.2.2))))))⟩ (fun hHeld => ?_)
    clear hK K
    refine done_ (done_of HT_.out (by kernel_rfl)) ?_
    try go_wp2
    refine bodyPost_ret (results_cell_row rfl _ _ gb313 25 #[.int .i64 t318, .int .i64 t321, .bool false] (0, 0) _ rfl (by (with_reducible repeat (first | refine blk_drewN ?_ _ | refine blk_drew ?_ | refine blk_alloc ?_ _)); refine blk_put (cs := #[.int .i64 t318, .int .i64 t321, .bool false]) ?_ 2 _ rfl; (with_reducible repeat (first | refine blk_drewN ?_ _ | refine blk_drew ?_ | refine blk_alloc ?_ _)); refine blk_put (cs := #[.int .i64 t318, .int .i64 0, .bool false]) ?_ 1 _ rfl; (with_reducible repeat (first | refine blk_drewN ?_ _ | refine blk_drew ?_ | refine blk_alloc ?_ _)); refine blk_put (cs := #[.int .i64 0, .int .i64 0, .bool false]) ?_ 0 _ rfl; (with_reducible repeat (first | refine blk_drewN ?_ _ | refine blk_drew ?_ | refine blk_alloc ?_ _)); exact BK313.out) Try.underlying25 rfl (by kernel_rfl)) rfl ?_
    exact ⟨by first | rfl | (simp [errW_none, errW_some] <;> rfl) | (simp [*, errW_none, errW_some] <;> rfl), bZ HB⟩
   ·replace c24 := Bool.eq_false_iff.mpr c24
    subst c24
    have H1 : (some (0, 0, true)) = some (r1, r2, r3) := by rw [if_neg (show ¬ (false = true) by decide)] at H; exact H
    clear H
    have H := H1
    clear H1
    simp only [Option.some.injEq, Prod.mk.injEq] at H
    obtain ⟨rfl, rfl, rfl⟩ := H
    go_enter Try.func66, Try.ntmps66
    go_wp2_with (first | ((with_reducible refine gate_dst (N := 2) rfl ?_); refine box_event ?hg (N := 2) ?hd (cs := #[.int .i64 a0_0, .int .i64 a0_1, .bool false]) (t := 25) ?hr ?_; (case hd => rfl); (case hg => rfl); (case hr => first | (go_simp; done) | (go_simp; rfl)); intro gb311 hg w45 hbox hb; have BK311 := Aside0.mk (hbox); have GW311 := bG HB hg; have GE311 := bG HB hg; replace HB := bS HB hb; clear hb hbox hg) | ((with_reducible refine gate_dst (N := 3) rfl ?_); refine box_event ?hg (N := 3) ?hd (cs := #[.int .i64 a1_0, .int .i64 a1_1, .bool false]) (t := 25) ?hr ?_; (case hd => rfl); (case hg => rfl); (case hr => first | (go_simp; done) | (go_simp; rfl)); intro gb312 hg w46 hbox hb; have BK312 := Aside0.mk (hbox); have GW312 := bG HB hg; have GE312 := bG HB hg; replace HB := bS HB hb; have NB311_312 := bL BK311 hg; have NB312_311 := bR BK311 hg; replace BK311 := bB BK311 hb; clear hb hbox hg) | ((with_reducible refine gate_dst (N := 4) rfl ?_); refine box_event ?hg (N := 4) ?hd (cs := #[.int .i64 0, .int .i64 0, .bool false]) (t := 25) ?hr ?_; (case hd => rfl); (case hg => rfl); (case hr => first | (go_simp; done) | (go_simp; rfl)); intro gb313 hg w47 hbox hb; have BK313 := Aside0.mk (hbox); have GW313 := bG HB hg; have GE313 := bG HB hg; replace HB := bS HB hb; have NB311_313 := bL BK311 hg; have NB313_311 := bR BK311 hg; replace BK311 := bB BK311 hb; have NB312_313 := bL BK312 hg; have NB313_312 := bR BK312 hg; replace BK312 := bB BK312 hb; clear hb hbox hg; have hnb48 := NB311_312.out; have hnc48 := NB312_311.out; have hnb49 := NB311_313.out; have hnc49 := NB313_311.out; have hcz50_0 : w47.cell? ⟨gb311, 0, none⟩ = some (.int .i64 a0_0) := bc BK311 0; have hcz50_1 : w47.cell? ⟨gb311, 1, none⟩ = some (.int .i64 a0_1) := bc BK311 1; have hcz50_2 : w47.cell? ⟨gb311, 2, none⟩ = some (.bool false) := bc BK311 2; have hfz50_0 := blk_frozen BK311.out 0; have hfz50_1 := blk_frozen BK311.out 1; have hfz50_2 := blk_frozen BK311.out 2; have hnb51 := NB312_313.out; have hnc51 := NB313_312.out; have hcz52_0 : w47.cell? ⟨gb312, 0, none⟩ = some (.int .i64 a1_0) := bc BK312 0; have hcz52_1 : w47.cell? ⟨gb312, 1, none⟩ = some (.int .i64 a1_1) := bc BK312 1; have hcz52_2 : w47.cell? ⟨gb312, 2, none⟩ = some (.bool false) := bc BK312 2; have hfz52_0 := blk_frozen BK312.out 0; have hfz52_1 := blk_frozen BK312.out 1; have hfz52_2 := blk_frozen BK312.out 2) | ((with_reducible refine gate_callee (f := 77) rfl ?_); refine goesL_ (some 17) rfl rfl Try.func77 (by kernel_rfl) rfl #[.agg #[.int .i64 a0_0, .int .i64 a0_1, .bool false], .agg #[.int .i64 a1_0, .int .i64 a1_1, .bool false]] rfl (by (try simp only [List.map_toArray, List.map_cons, List.map_nil]); first | done | rfl | (simp only [List.length_drop, List.length_take]; rfl)) ?_; (with_reducible refine (impl_slopeOf.calls k a0_0 a0_1 false a1_0 a1_1 false t314 false _ A23.out).mono ?_); rintro e w53 ⟨rfl, hb⟩; refine ⟨_, rfl, ?_⟩; replace BK311 := bB BK311 hb; replace BK312 := bB BK312 hb; replace BK313 := bB BK313 hb; replace HB := bS HB hb; (try clear hb); (try clear hb2); (try clear hk); (try clear hi); have hcz54_0 : w53.cell? ⟨gb313, 0, none⟩ = some (.int .i64 0) := bc BK313 0; have hcz54_1 : w53.cell? ⟨gb313, 1, none⟩ = some (.int .i64 0) := bc BK313 1; have hcz54_2 : w53.cell? ⟨gb313, 2, none⟩ = some (.bool false) := bc BK313 2; have hfz54_0 := blk_frozen BK313.out 0; have hfz54_1 := blk_frozen BK313.out 1; have hfz54_2 := blk_frozen BK313.out 2))
    refine bodyPost_ret (results_cell_row rfl _ _ gb313 25 #[.int .i64 0, .int .i64 0, .bool true] (0, 0) _ rfl (by (with_reducible repeat (first | refine blk_drewN ?_ _ | refine blk_drew ?_ | refine blk_alloc ?_ _)); refine blk_put (cs := #[.int .i64 0, .int .i64 0, .bool false]) ?_ 2 _ rfl; (with_reducible repeat (first | refine blk_drewN ?_ _ | refine blk_drew ?_ | refine blk_alloc ?_ _)); refine blk_put (cs := #[.int .i64 0, .int .i64 0, .bool false]) ?_ 1 _ rfl; (with_reducible repeat (first | refine blk_drewN ?_ _ | refine blk_drew ?_ | refine blk_alloc ?_ _)); refine blk_put (cs := #[.int .i64 0, .int .i64 0, .bool false]) ?_ 0 _ rfl; (with_reducible repeat (first | refine blk_drewN ?_ _ | refine blk_drew ?_ | refine blk_alloc ?_ _)); exact BK313.out) Try.underlying25 rfl (by kernel_rfl)) rfl ?_
    exact ⟨by first | rfl | (simp [errW_none, errW_some] <;> rfl) | (simp [*, errW_none, errW_some] <;> rfl), bZ HB⟩
/-! ### spec_l07Zero: function 78 -/
def spec_l07Zero.f  : Option (Int × Int × Bool) := some (0, 0, true)
set_option maxHeartbeats 8000000 in
set_option maxRecDepth 100000 in
theorem spec_l07Zero.calls  (r1 : Int) (r2 : Int) (r3 : Bool) (w : World) (h : spec_l07Zero.f  = some (r1, r2, r3)) :
  Calls Try.prog 78 #[] w fun e w' => e = .returned (.agg #[.int .i64 r1, .int .i64 r2, .bool r3]) ∧ Below w.heap.size w w' := by
 have hu25 := Try.underlying25
 have HB := Aside0.mk (Below.refl w.heap.size w)
 have H : (some (0, 0, true)) = some (r1, r2, r3) := h
 clear h
 simp only [Option.some.injEq, Prod.mk.injEq] at H
 obtain ⟨rfl, rfl, rfl⟩ := H
 go_enter Try.func78, Try.ntmps78
 go_wp2_with (first | ((with_reducible refine gate_dst (N := 0) rfl ?_); refine box_event ?hg (N := 0) ?hd (cs := #[.int .i64 0, .int .i64 0, .bool false]) (t := 25) ?hr ?_; (case hd => rfl); (case hg => rfl); (case hr => first | (go_simp; done) | (go_simp; rfl)); intro gb119 hg w1 hbox hb; have BK119 := Aside0.mk (hbox); have GW119 := bG HB hg; have GE119 := bG HB hg; replace HB := bS HB hb; clear hb hbox hg; have hcz2_0 : w1.cell? ⟨gb119, 0, none⟩ = some (.int .i64 0) := bc BK119 0; have hcz2_1 : w1.cell? ⟨gb119, 1, none⟩ = some (.int .i64 0) := bc BK119 1; have hcz2_2 : w1.cell? ⟨gb119, 2, none⟩ = some (.bool false) := bc BK119 2; have hfz2_0 := blk_frozen BK119.out 0; have hfz2_1 := blk_frozen BK119.out 1; have hfz2_2 := blk_frozen BK119.out 2))
 refine bodyPost_ret (results_cell_row rfl _ _ gb119 25 #[.int .i64 0, .int .i64 0, .bool true] (0, 0) _ rfl (by (with_reducible repeat (first | refine blk_drewN ?_ _ | refine blk_drew ?_ | refine blk_alloc ?_ _)); refine blk_put (cs := #[.int .i64 0, .int .i64 0, .bool false]) ?_ 2 _ rfl; (with_reducible repeat (first | refine blk_drewN ?_ _ | refine blk_drew ?_ | refine blk_alloc ?_ _)); refine blk_put (cs := #[.int .i64 0, .int .i64 0, .bool false]) ?_ 1 _ rfl; (with_reducible repeat (first | refine blk_drewN ?_ _ | refine blk_drew ?_ | refine blk_alloc ?_ _)); refine blk_put (cs := #[.int .i64 0, .int .i64 0, .bool false]) ?_ 0 _ rfl; (with_reducible repeat (first | refine blk_drewN ?_ _ | refine blk_drew ?_ | refine blk_alloc ?_ _)); exact BK119.out) Try.underlying25 rfl (by kernel_rfl)) rfl ?_
 exact ⟨by first | rfl | (simp [errW_none, errW_some] <;> rfl) | (simp [*, errW_none, errW_some] <;> rfl), bZ HB⟩
end Go.Proofs.Ytmbjefdkjdemhaa.Pf
end
